/- The machine's texts of FnProgSame (links). Conditions: none. -/
import Derived.Test.YtlpgpckggnimhaaDoorPFnProgSamex0
set_option linter.unusedVariables false
set_option linter.unusedSimpArgs false
set_option maxRecDepth 100000
set_option maxHeartbeats 4000000
namespace Go.Proofs.YtlpgpckggnimhaaDoor.PFnProgSame
open Go.RowKit Go.Proofs.YtlpgpckggnimhaaDoorW.PrintWords Go.Proofs.YtlpgpckggnimhaaDoorW.PrintLast Go.Proofs.YtlpgpckggnimhaaDoorW.PrintMore
open Go Go.Proofs Am
noncomputable def C_59 : Ctr tau Unit := ctr0
theorem okC_59 : CtrOk Tryd.prog TT pnT C_59 := ctr0_ok
theorem mC_59 : CtrMono C_59 := ctr0_mono
theorem mc_59 (args : List (AV tau)) (m : Mem tau) (k k' : AV tau → Mem tau → Option Unit) (hk : ∀ av m, k av m = some () → k' av m = some ()) (h : c_59 args m k = some ()) : c_59 args m k' = some () := by
 unfold c_59 at h ⊢
 split at h
 · repeat' first | exact callX_mono (fun _ h => hk _ _ h) h | refine bO_mono (fun _ h => ?_) h
 · cases h
theorem okc_59 (args : List (AV tau)) (m : Mem tau) (κ : AV tau → Mem tau → Option Unit) (hh : c_59 args m κ = some ()) : ∃ av m1, κ av m1 = some () ∧ ToldA Tryd.prog TT (pnT 59) 59 args m av m1 := by
 obtain ⟨bx_, rw_⟩ := m
 unfold c_59 at hh
 simp only at hh
 split at hh
 case h_2 => cases hh
 rename_i b0 b1 r0
 obtain ⟨u0, hx0, hh0⟩ := bO_some hh
 obtain ⟨l0, hx1, hh1⟩ := bO_some hh0
 obtain ⟨a1, hx2, hh2⟩ := bO_some hh1
 have ex0 := asOwn_some hx0
 have ex1 := asRow_some hx1
 have ex2 := asS_some hx2
 subst ex0 ex1 ex2
 obtain ⟨N, t, h, hκ⟩ := callX_some hh2
 replace h : strings_Join.f N l0 a1 = some t := h
 refine ⟨_, _, hκ, ?_⟩
 unfold strings_Join.f at h
 split at h
 case isFalse => cases h
 rename_i hb
 cases h
 exact told_join (T := TT) (P := Tryd.prog) (e := 9) (xs := (l0 : List ByteArray)) (ys := l0) ⟨Tryd.f59, by kernel_rfl, by kernel_rfl, by kernel_rfl⟩ rfl rfl (fun j x y hx hy => by
   have := hx.symm.trans hy
   cases this; rfl) (fun hz w A c => by
   have hz' : l0 = [] := List.eq_nil_of_length_eq_zero hz
   subst hz'
   exact Any.strings_Join_none Tryd.lays156 Tryd.Builder_Extra_156 A c a1 w) (fun w g o c hc hg hle => Any.strings_Join Tryd.lays156 Tryd.Builder_Extra_156 g o c l0 a1 w hc hg hb.1 hle hb.2)
noncomputable def C_58 : Ctr tau Unit := ctrS 59 c_59 C_59
theorem okC_58 : CtrOk Tryd.prog TT pnT C_58 := ctrS_ok okC_59 okc_59
theorem mC_58 : CtrMono C_58 := ctrS_mono mC_59 mc_59
theorem mc_58 (args : List (AV tau)) (m : Mem tau) (k k' : AV tau → Mem tau → Option Unit) (hk : ∀ av m, k av m = some () → k' av m = some ()) (h : c_58 args m k = some ()) : c_58 args m k' = some () := by
 unfold c_58 at h ⊢
 split at h
 · repeat' first | exact callX_mono (fun _ h => hk _ _ h) h | refine bO_mono (fun _ h => ?_) h
 · cases h
theorem okc_58 (args : List (AV tau)) (m : Mem tau) (κ : AV tau → Mem tau → Option Unit) (hh : c_58 args m κ = some ()) : ∃ av m1, κ av m1 = some () ∧ ToldA Tryd.prog TT (pnT 58) 58 args m av m1 := by
 obtain ⟨bx_, rw_⟩ := m
 unfold c_58 at hh
 simp only at hh
 split at hh
 case h_2 => cases hh
 rename_i b0
 obtain ⟨a0, hx0, hh0⟩ := bO_some hh
 have ex0 := asI_some hx0
 subst ex0
 obtain ⟨N, t, h, hκ⟩ := callX_some hh0
 replace h : strconv_Itoa.f N a0 = some t := h
 refine ⟨_, _, hκ, ?_⟩
 unfold strconv_Itoa.f at h
 split at h
 case isFalse => cases h
 rename_i hb
 cases h
 exact told_num ⟨Tryd.f58, by kernel_rfl, by kernel_rfl, by kernel_rfl⟩ (fun w S hg => (Any.strconv_Itoa Tryd.laysM171 a0 hb.1 hb.2 w hg.2.2.2.2).mono fun e w' ⟨he, d, os, hw⟩ => ⟨he, hw ▸ below_grown w d os⟩)
noncomputable def C_64 : Ctr tau Unit := ctrS 58 c_58 C_58
noncomputable def D_64 : Drw tau := drawA E_64 C_64
theorem okC_64 : CtrOk Tryd.prog TT pnT C_64 := ctrS_ok okC_58 okc_58
theorem mC_64 : CtrMono C_64 := ctrS_mono mC_58 mc_58
theorem mD_64 : DrMono D_64 := drawA_mono mC_64
noncomputable def B_64 : Code := Tryd.f64.body.getD .skip
theorem mc_64 (args : List (AV tau)) (m : Mem tau) (k k' : AV tau → Mem tau → Option Unit) (hk : ∀ av m, k av m = some () → k' av m = some ()) (h : c_64 args m k = some ()) : c_64 args m k' = some () := by
 unfold c_64 at h ⊢
 split at h
 · repeat' first | exact callX_mono (fun _ h => hk _ _ h) h | refine bO_mono (fun _ h => ?_) h
 · cases h
theorem w_64 (a0 : Int) (a1 : Int) (a2 : Int) (k : AV tau → Mem tau → Option Unit) : fnA E_64 C_64 D_64 Tryd.f64 B_64 [.int .i64 a0, .int .i64 a1, .int .i64 a2] ⟨[], []⟩ k = (brA (decide (a0 ≥ a1)) (k (.bool (decide (a0 ≤ a2))) ⟨[], []⟩) (k (.bool false) ⟨[], []⟩) : Option Unit) := by kernel_rfl
theorem okc_64 (args : List (AV tau)) (m : Mem tau) (κ : AV tau → Mem tau → Option Unit) (hh : c_64 args m κ = some ()) : ∃ av m1, κ av m1 = some () ∧ ToldA Tryd.prog TT (pnT 64) 64 args m av m1 := by
 obtain ⟨bx_, rw_⟩ := m
 unfold c_64 at hh
 simp only at hh
 split at hh
 case h_2 => cases hh
 rename_i b0 b1 b2
 obtain ⟨a0, hx0, hh0⟩ := bO_some hh
 obtain ⟨a1, hx1, hh1⟩ := bO_some hh0
 obtain ⟨a2, hx2, hh2⟩ := bO_some hh1
 have ex0 := asI_some hx0
 have ex1 := asI_some hx1
 have ex2 := asI_some hx2
 subst ex0 ex1 ex2
 obtain ⟨N, t, h, hκ⟩ := callX_some hh2
 refine ⟨_, _, hκ, told_of_run pq okC_64 (fun _ _ _ => drawA_ok pq okC_64 hmix) (E := E_64) (fn := Tryd.f64) (body := B_64) (by kernel_rfl) (by kernel_rfl) (by kernel_rfl) (by rfl) (by exact Nat.le_of_ble_eq_true rfl) (fun k hk => ?_)⟩
 refine (w_64 a0 a1 a2 k).trans ?_
 replace h : impl_in.f a0 a1 a2 = some t := h
 unfold impl_in.f at h
 refine br_eti h rfl (fun c2 h => ?_) (fun c2 h => ?_)
 ·cases h; exact hk
 cases h; exact hk
noncomputable def C_93 : Ctr tau Unit := ctrS 64 c_64 C_64
noncomputable def D_93 : Drw tau := drawA E_93 C_93
theorem okC_93 : CtrOk Tryd.prog TT pnT C_93 := ctrS_ok okC_64 okc_64
theorem mC_93 : CtrMono C_93 := ctrS_mono mC_64 mc_64
theorem mD_93 : DrMono D_93 := drawA_mono mC_93
noncomputable def B_93 : Code := Tryd.f93.body.getD .skip
theorem mc_93 (args : List (AV tau)) (m : Mem tau) (k k' : AV tau → Mem tau → Option Unit) (hk : ∀ av m, k av m = some () → k' av m = some ()) (h : c_93 args m k = some ()) : c_93 args m k' = some () := by
 unfold c_93 at h ⊢
 split at h
 · repeat' first | exact callX_mono (fun _ h => hk _ _ h) h | refine bO_mono (fun _ h => ?_) h
 · cases h
theorem w_93 (a0 : Int) (k : AV tau → Mem tau → Option Unit) : fnA E_93 C_93 D_93 Tryd.f93 B_93 [.int .i64 a0] ⟨[], []⟩ k = (callX (fun n => impl_in.f a0 (0 : Int) (3 : Int)) fun t0 => k (.bool t0) ⟨[], []⟩ : Option Unit) := by kernel_rfl
theorem okc_93 (args : List (AV tau)) (m : Mem tau) (κ : AV tau → Mem tau → Option Unit) (hh : c_93 args m κ = some ()) : ∃ av m1, κ av m1 = some () ∧ ToldA Tryd.prog TT (pnT 93) 93 args m av m1 := by
 obtain ⟨bx_, rw_⟩ := m
 unfold c_93 at hh
 simp only at hh
 split at hh
 case h_2 => cases hh
 rename_i b0
 obtain ⟨a0, hx0, hh0⟩ := bO_some hh
 have ex0 := asI_some hx0
 subst ex0
 obtain ⟨N, t, h, hκ⟩ := callX_some hh0
 refine ⟨_, _, hκ, told_of_run pq okC_93 (fun _ _ _ => drawA_ok pq okC_93 hmix) (E := E_93) (fn := Tryd.f93) (body := B_93) (by kernel_rfl) (by kernel_rfl) (by kernel_rfl) (by rfl) (by exact Nat.le_of_ble_eq_true rfl) (fun k hk => ?_)⟩
 refine (w_93 a0 k).trans ?_
 replace h : impl_insOk_1.f a0 = some t := h
 unfold impl_insOk_1.f at h
 refine call_h 0 h (fun t0 e2 h => ?_)
 cases h; exact hk
noncomputable def C_94 : Ctr tau Unit := ctrS 93 c_93 C_93
noncomputable def D_94 : Drw tau := drawA E_94 C_94
theorem okC_94 : CtrOk Tryd.prog TT pnT C_94 := ctrS_ok okC_93 okc_93
theorem mC_94 : CtrMono C_94 := ctrS_mono mC_93 mc_93
theorem mD_94 : DrMono D_94 := drawA_mono mC_94
noncomputable def B_94 : Code := Tryd.f94.body.getD .skip
theorem mc_94 (args : List (AV tau)) (m : Mem tau) (k k' : AV tau → Mem tau → Option Unit) (hk : ∀ av m, k av m = some () → k' av m = some ()) (h : c_94 args m k = some ()) : c_94 args m k' = some () := by
 unfold c_94 at h ⊢
 split at h
 · repeat' first | exact callX_mono (fun _ h => hk _ _ h) h | refine bO_mono (fun _ h => ?_) h
 · cases h
theorem w_94 (a0 : Int) (k : AV tau → Mem tau → Option Unit) : fnA E_94 C_94 D_94 Tryd.f94 B_94 [.int .i64 a0] ⟨[], []⟩ k = (callX (fun n => impl_in.f a0 (0 : Int) (3 : Int)) fun t0 => k (.bool t0) ⟨[], []⟩ : Option Unit) := by kernel_rfl
theorem okc_94 (args : List (AV tau)) (m : Mem tau) (κ : AV tau → Mem tau → Option Unit) (hh : c_94 args m κ = some ()) : ∃ av m1, κ av m1 = some () ∧ ToldA Tryd.prog TT (pnT 94) 94 args m av m1 := by
 obtain ⟨bx_, rw_⟩ := m
 unfold c_94 at hh
 simp only at hh
 split at hh
 case h_2 => cases hh
 rename_i b0
 obtain ⟨a0, hx0, hh0⟩ := bO_some hh
 have ex0 := asI_some hx0
 subst ex0
 obtain ⟨N, t, h, hκ⟩ := callX_some hh0
 refine ⟨_, _, hκ, told_of_run pq okC_94 (fun _ _ _ => drawA_ok pq okC_94 hmix) (E := E_94) (fn := Tryd.f94) (body := B_94) (by kernel_rfl) (by kernel_rfl) (by kernel_rfl) (by rfl) (by exact Nat.le_of_ble_eq_true rfl) (fun k hk => ?_)⟩
 refine (w_94 a0 k).trans ?_
 replace h : impl_insOk_2.f a0 = some t := h
 unfold impl_insOk_2.f at h
 refine call_h 0 h (fun t0 e2 h => ?_)
 cases h; exact hk
noncomputable def C_74 : Ctr tau Unit := ctrS 94 c_94 C_94
noncomputable def D_74 : Drw tau := drawA E_74 C_74
theorem okC_74 : CtrOk Tryd.prog TT pnT C_74 := ctrS_ok okC_94 okc_94
theorem mC_74 : CtrMono C_74 := ctrS_mono mC_94 mc_94
theorem mD_74 : DrMono D_74 := drawA_mono mC_74
noncomputable def B_74 : Code := Tryd.f74.body.getD .skip
theorem mc_74 (args : List (AV tau)) (m : Mem tau) (k k' : AV tau → Mem tau → Option Unit) (hk : ∀ av m, k av m = some () → k' av m = some ()) (h : c_74 args m k = some ()) : c_74 args m k' = some () := by
 unfold c_74 at h ⊢
 split at h
 · repeat' first | exact callX_mono (fun _ h => hk _ _ h) h | refine bO_mono (fun _ h => ?_) h
 · cases h
theorem w_74 (a0_0 : Int) (a0_1 : Int) (a0_2 : Int) (a0_3 : Int) (k : AV tau → Mem tau → Option Unit) : fnA E_74 C_74 D_74 Tryd.f74 B_74 [.agg [.int .i64 a0_0, .int .i64 a0_1, .int .i64 a0_2, .int .i64 a0_3]] ⟨[], []⟩ k = (brA (decide (a0_0 = (1 : Int))) (callX (fun n => impl_insOk_1.f a0_1) fun t0 => brA t0 (callX (fun n => impl_insOk_2.f a0_2) fun t1 => brA t1 (k (.bool (decide (a0_3 = (0 : Int)))) ⟨[], []⟩) (k (.bool false) ⟨[], []⟩)) (k (.bool false) ⟨[], []⟩)) (brA (decide (a0_0 = (2 : Int))) (callX (fun n => impl_insOk_2.f a0_1) fun t2 => brA t2 (callX (fun n => impl_insOk_1.f a0_2) fun t3 => brA t3 (k (.bool (decide (a0_3 = (0 : Int)))) ⟨[], []⟩) (k (.bool false) ⟨[], []⟩)) (k (.bool false) ⟨[], []⟩)) (brA (decide (a0_0 = (3 : Int))) (callX (fun n => impl_insOk_1.f a0_1) fun t4 => brA t4 (brA (decide (a0_2 = (0 : Int))) (callX (fun n => impl_in.f a0_3 (-(1000000 : Int)) (1000000 : Int)) fun t5 => k (.bool t5) ⟨[], []⟩) (k (.bool false) ⟨[], []⟩)) (k (.bool false) ⟨[], []⟩)) (brA (decide (a0_0 = (4 : Int))) (brA (decide (a0_0 = (4 : Int))) (callX (fun n => impl_insOk_1.f a0_1) fun t6 => brA t6 (callX (fun n => impl_insOk_1.f a0_2) fun t7 => brA t7 (k (.bool (decide (a0_3 = (0 : Int)))) ⟨[], []⟩) (k (.bool false) ⟨[], []⟩)) (k (.bool false) ⟨[], []⟩)) (brA (decide (a0_0 = (6 : Int))) (callX (fun n => impl_insOk_1.f a0_1) fun t8 => brA t8 (callX (fun n => impl_insOk_1.f a0_2) fun t9 => brA t9 (callX (fun n => impl_in.f a0_3 (1 : Int) (10 : Int)) fun t10 => k (.bool t10) ⟨[], []⟩) (k (.bool false) ⟨[], []⟩)) (k (.bool false) ⟨[], []⟩)) (brA (decide (a0_0 = (7 : Int))) (brA (decide (a0_1 = (0 : Int))) (brA (decide (a0_2 = (0 : Int))) (k (.bool (decide (a0_3 = (0 : Int)))) ⟨[], []⟩) (k (.bool false) ⟨[], []⟩)) (k (.bool false) ⟨[], []⟩)) (k (.bool false) ⟨[], []⟩)))) (brA (decide (a0_0 = (5 : Int))) (callX (fun n => impl_insOk_1.f a0_1) fun t11 => brA t11 (callX (fun n => impl_insOk_1.f a0_2) fun t12 => brA t12 (k (.bool (decide (a0_3 = (0 : Int)))) ⟨[], []⟩) (k (.bool false) ⟨[], []⟩)) (k (.bool false) ⟨[], []⟩)) (brA (decide (a0_0 = (6 : Int))) (callX (fun n => impl_insOk_1.f a0_1) fun t13 => brA t13 (callX (fun n => impl_insOk_1.f a0_2) fun t14 => brA t14 (callX (fun n => impl_in.f a0_3 (1 : Int) (10 : Int)) fun t15 => k (.bool t15) ⟨[], []⟩) (k (.bool false) ⟨[], []⟩)) (k (.bool false) ⟨[], []⟩)) (brA (decide (a0_0 = (7 : Int))) (brA (decide (a0_1 = (0 : Int))) (brA (decide (a0_2 = (0 : Int))) (k (.bool (decide (a0_3 = (0 : Int)))) ⟨[], []⟩) (k (.bool false) ⟨[], []⟩)) (k (.bool false) ⟨[], []⟩)) (k (.bool false) ⟨[], []⟩))))))) : Option Unit) := by kernel_rfl
theorem okc_74 (args : List (AV tau)) (m : Mem tau) (κ : AV tau → Mem tau → Option Unit) (hh : c_74 args m κ = some ()) : ∃ av m1, κ av m1 = some () ∧ ToldA Tryd.prog TT (pnT 74) 74 args m av m1 := by
 obtain ⟨bx_, rw_⟩ := m
 unfold c_74 at hh
 simp only at hh
 split at hh
 case h_2 => cases hh
 rename_i b0 b1 b2 b3
 obtain ⟨a0_0, hx0, hh0⟩ := bO_some hh
 obtain ⟨a0_1, hx1, hh1⟩ := bO_some hh0
 obtain ⟨a0_2, hx2, hh2⟩ := bO_some hh1
 obtain ⟨a0_3, hx3, hh3⟩ := bO_some hh2
 have ex0 := asI_some hx0
 have ex1 := asI_some hx1
 have ex2 := asI_some hx2
 have ex3 := asI_some hx3
 subst ex0 ex1 ex2 ex3
 obtain ⟨N, t, h, hκ⟩ := callX_some hh3
 refine ⟨_, _, hκ, told_of_run pq okC_74 (fun _ _ _ => drawA_ok pq okC_74 hmix) (E := E_74) (fn := Tryd.f74) (body := B_74) (by kernel_rfl) (by kernel_rfl) (by kernel_rfl) (by rfl) (by exact Nat.le_of_ble_eq_true rfl) (fun k hk => ?_)⟩
 refine (w_74 a0_0 a0_1 a0_2 a0_3 k).trans ?_
 replace h : impl_insOk.f N a0_0 a0_1 a0_2 a0_3 = some t := h
 unfold impl_insOk.f at h
 refine br_ite h rfl (fun c45 h => ?_) (fun c45 h => ?_)
 ·refine call_h 0 h (fun t0 e46 h => ?_)
  refine br_eti h dect (fun c47 h => ?_) (fun c47 h => ?_)
  ·cases h; exact hk
  refine call_h 0 h (fun t1 e48 h => ?_)
  refine br_eti h dect (fun c49 h => ?_) (fun c49 h => ?_)
  ·cases h; exact hk
  cases h; exact hk
 refine br_ite h rfl (fun c50 h => ?_) (fun c50 h => ?_)
 ·refine call_h 0 h (fun t2 e51 h => ?_)
  refine br_eti h dect (fun c52 h => ?_) (fun c52 h => ?_)
  ·cases h; exact hk
  refine call_h 0 h (fun t3 e53 h => ?_)
  refine br_eti h dect (fun c54 h => ?_) (fun c54 h => ?_)
  ·cases h; exact hk
  cases h; exact hk
 refine br_ite h rfl (fun c55 h => ?_) (fun c55 h => ?_)
 ·refine call_h 0 h (fun t4 e56 h => ?_)
  refine br_eti h dect (fun c57 h => ?_) (fun c57 h => ?_)
  ·cases h; exact hk
  refine br_eti h rfl (fun c58 h => ?_) (fun c58 h => ?_)
  ·cases h; exact hk
  refine call_h 0 h (fun t5 e59 h => ?_)
  cases h; exact hk
 refine br_ite h rfl (fun c60 h => ?_) (fun c60 h => ?_)
 ·rcases N with _ | N
  · cases h
  first | rw [impl_insOk.j0] at h | simp only [impl_insOk.j0] at h | (unfold impl_insOk.j0 at h; dsimp only at h)
  refine br_ite h (by first | rfl | exact dect | exact (congrArg not dect) | (simp; done) | (simp [beqI]; done) | (simp; omega)) (fun c61 h => ?_) (fun c61 h => ?_)
  ·refine call_h 0 h (fun t6 e62 h => ?_)
   refine br_eti h dect (fun c63 h => ?_) (fun c63 h => ?_)
   ·cases h; exact hk
   refine call_h 0 h (fun t7 e64 h => ?_)
   refine br_eti h dect (fun c65 h => ?_) (fun c65 h => ?_)
   ·cases h; exact hk
   cases h; exact hk
  refine br_eti h rfl (fun c66 h => ?_) (fun c66 h => ?_)
  ·refine br_eti h rfl (fun c67 h => ?_) (fun c67 h => ?_)
   ·cases h; exact hk
   refine br_eti h rfl (fun c68 h => ?_) (fun c68 h => ?_)
   ·cases h; exact hk
   refine br_eti h rfl (fun c69 h => ?_) (fun c69 h => ?_)
   ·cases h; exact hk
   cases h; exact hk
  refine call_h 0 h (fun t8 e70 h => ?_)
  refine br_eti h dect (fun c71 h => ?_) (fun c71 h => ?_)
  ·cases h; exact hk
  refine call_h 0 h (fun t9 e72 h => ?_)
  refine br_eti h dect (fun c73 h => ?_) (fun c73 h => ?_)
  ·cases h; exact hk
  refine call_h 0 h (fun t10 e74 h => ?_)
  cases h; exact hk
 rcases N with _ | N
 · cases h
 first | rw [impl_insOk.j0] at h | simp only [impl_insOk.j0] at h | (unfold impl_insOk.j0 at h; dsimp only at h)
 refine br_ite h (by first | rfl | exact dect | exact (congrArg not dect) | (simp; done) | (simp [beqI]; done) | (simp; omega)) (fun c75 h => ?_) (fun c75 h => ?_)
 ·refine call_h 0 h (fun t11 e76 h => ?_)
  refine br_eti h dect (fun c77 h => ?_) (fun c77 h => ?_)
  ·cases h; exact hk
  refine call_h 0 h (fun t12 e78 h => ?_)
  refine br_eti h dect (fun c79 h => ?_) (fun c79 h => ?_)
  ·cases h; exact hk
  cases h; exact hk
 refine br_eti h rfl (fun c80 h => ?_) (fun c80 h => ?_)
 ·refine br_eti h rfl (fun c81 h => ?_) (fun c81 h => ?_)
  ·cases h; exact hk
  refine br_eti h rfl (fun c82 h => ?_) (fun c82 h => ?_)
  ·cases h; exact hk
  refine br_eti h rfl (fun c83 h => ?_) (fun c83 h => ?_)
  ·cases h; exact hk
  cases h; exact hk
 refine call_h 0 h (fun t13 e84 h => ?_)
 refine br_eti h dect (fun c85 h => ?_) (fun c85 h => ?_)
 ·cases h; exact hk
 refine call_h 0 h (fun t14 e86 h => ?_)
 refine br_eti h dect (fun c87 h => ?_) (fun c87 h => ?_)
 ·cases h; exact hk
 refine call_h 0 h (fun t15 e88 h => ?_)
 cases h; exact hk
noncomputable def C_29 : Ctr tau Unit := ctrS 74 c_74 C_74
noncomputable def D_29 : Drw tau := drawA E_29 C_29
theorem okC_29 : CtrOk Tryd.prog TT pnT C_29 := ctrS_ok okC_74 okc_74
theorem mC_29 : CtrMono C_29 := ctrS_mono mC_74 mc_74
theorem mD_29 : DrMono D_29 := drawA_mono mC_29
noncomputable def B_29 : Code := Tryd.f29.body.getD .skip
theorem mc_29 (args : List (AV tau)) (m : Mem tau) (k k' : AV tau → Mem tau → Option Unit) (hk : ∀ av m, k av m = some () → k' av m = some ()) (h : c_29 args m k = some ()) : c_29 args m k' = some () := by
 unfold c_29 at h ⊢
 split at h
 · repeat' first | exact callX_mono (fun _ h => hk _ _ h) h | refine bO_mono (fun _ h => ?_) h
 · cases h
noncomputable def K_29_0 (k : AV tau → Mem tau → Option Unit) : Kon tau := (kBlock 0 (kS E_29 C_29 D_29 (codeP B_29 [1, 1]) (kEnd E_29 Tryd.f29 k)))
def st_29_0 (x0 : (List S60)) (x1 : (List S60)) (x2 : Int) (x3 : Int) : St tau := ⟨tmL 18 0 [(0, .sl 60 x0), (5, .sl 60 x1), (6, .int .i64 x2), (7, .int .i64 x3)], ⟨[], []⟩⟩
noncomputable def LP_29_0 (k : AV tau → Mem tau → Option Unit) (x0 : (List S60)) (x1 : (List S60)) (x2 : Int) (x3 : Int) : Option Unit := loopA E_29 (codeA E_29 C_29 D_29 (codeP B_29 [1, 0, 1, 0, 0])) (codeP B_29 [1, 0, 1, 0, 0]) (K_29_0 k) (st_29_0 x0 x1 x2 x3)
theorem w_29_0 (k : AV tau → Mem tau → Option Unit) (x0 : (List S60)) (x1 : (List S60)) (x2 : Int) (x3 : Int) : codeA E_29 C_29 D_29 (codeP B_29 [1, 0, 1, 0, 0]) (kL E_29 C_29 D_29 (codeP B_29 [1, 0, 1, 0, 0]) (K_29_0 k)) (st_29_0 x0 x1 x2 x3) = (brA (decide (x3 < x2)) (brA (decide ((0 : Int) ≤ x3)) (brA (decide (x3 < ((x1.length : Nat) : Int))) (callX (fun n => impl_insOk.f n ((rd_T60 x1 x3).f0) ((rd_T60 x1 x3).f1) ((rd_T60 x1 x3).f2) ((rd_T60 x1 x3).f3)) fun t0 => brA (!t0) (k (.bool false) ⟨[], []⟩) (LP_29_0 k x0 x1 x2 (wrap64 (x3 + (1 : Int))))) (none)) (none)) (k (.bool (decide (((x0.length : Nat) : Int) ≤ (10 : Int)))) ⟨[], []⟩) : Option Unit) := by
 simp only [← wrapA_i64]
 kernel_rfl
theorem w_29 (l0 : List S60) (k : AV tau → Mem tau → Option Unit) : fnA E_29 C_29 D_29 Tryd.f29 B_29 [.sl 60 l0] ⟨[], []⟩ k = (LP_29_0 k l0 l0 ((l0.length : Nat) : Int) (0 : Int) : Option Unit) := by kernel_rfl
def S_29_0 (N : Nat) : Prop := ∀ (k : AV tau → Mem tau → Option Unit) (x0 : (List S60)) (x1 : (List S60)) (x2 : Int) (x3 : Int) (r : Bool), impl_ProgOk.l0 N (x0) (x1) (x2) (x3) = some r → k (.bool (r)) ⟨[], []⟩ = some () → LP_29_0 k x0 x1 x2 x3 = some ()
theorem L_29 (N : Nat) : S_29_0 N := by
 induction N using Nat.strongRecOn with | _ N0 ih =>
 skip
 intro k x0 x1 x2 x3 r h hk
 rcases N0 with _ | N
 · cases h
 first | rw [impl_ProgOk.l0] at h | simp only [impl_ProgOk.l0] at h | (unfold impl_ProgOk.l0 at h; dsimp only at h)
 refine loop_fold mC_29 mD_29 ?_
 refine (w_29_0 k x0 x1 x2 x3).trans ?_
 refine br_eti h rfl (fun c11 h => ?_) (fun c11 h => ?_)
 ·cases h; exact hk
 refine br_g h rfl (fun c12 h => ?_)
 refine br_g h rfl (fun c13 h => ?_)
 refine call_h N h (fun t0 e14 h => ?_)
 refine br_etn h (congrArg not dect) (fun c15 h => ?_) (fun c15 h => ?_)
 ·cases h; exact hk
 exact (ih N (by omega)) _ _ _ _ _ _ h hk
theorem okc_29 (args : List (AV tau)) (m : Mem tau) (κ : AV tau → Mem tau → Option Unit) (hh : c_29 args m κ = some ()) : ∃ av m1, κ av m1 = some () ∧ ToldA Tryd.prog TT (pnT 29) 29 args m av m1 := by
 obtain ⟨bx_, rw_⟩ := m
 unfold c_29 at hh
 simp only at hh
 split at hh
 case h_2 => cases hh
 rename_i b0
 obtain ⟨l0, hx0, hh0⟩ := bO_some hh
 have ex0 := asSl_some hx0
 subst ex0
 obtain ⟨N, t, h, hκ⟩ := callX_some hh0
 refine ⟨_, _, hκ, told_of_run pq okC_29 (fun _ _ _ => drawA_ok pq okC_29 hmix) (E := E_29) (fn := Tryd.f29) (body := B_29) (by kernel_rfl) (by kernel_rfl) (by kernel_rfl) (by rfl) (by exact Nat.le_of_ble_eq_true rfl) (fun k hk => ?_)⟩
 refine (w_29 l0 k).trans ?_
 replace h : impl_ProgOk.f N l0 = some t := h
 unfold impl_ProgOk.f at h
 exact (L_29 N) _ _ _ _ _ _ h hk
noncomputable def C_65 : Ctr tau Unit := ctrS 29 c_29 C_29
noncomputable def D_65 : Drw tau := drawA E_65 C_65
theorem okC_65 : CtrOk Tryd.prog TT pnT C_65 := ctrS_ok okC_29 okc_29
theorem mC_65 : CtrMono C_65 := ctrS_mono mC_29 mc_29
theorem mD_65 : DrMono D_65 := drawA_mono mC_65
noncomputable def B_65 : Code := Tryd.f65.body.getD .skip
theorem mc_65 (args : List (AV tau)) (m : Mem tau) (k k' : AV tau → Mem tau → Option Unit) (hk : ∀ av m, k av m = some () → k' av m = some ()) (h : c_65 args m k = some ()) : c_65 args m k' = some () := by
 unfold c_65 at h ⊢
 split at h
 · repeat' first | exact callX_mono (fun _ h => hk _ _ h) h | refine bO_mono (fun _ h => ?_) h
 · cases h
theorem w_65 (a0 : Int) (k : AV tau → Mem tau → Option Unit) : fnA E_65 C_65 D_65 Tryd.f65 B_65 [.int .i64 a0] ⟨[], []⟩ k = (brA (decide (a0 ≥ (-(1000000 : Int)))) (k (.bool (decide (a0 ≤ (1000000 : Int)))) ⟨[], []⟩) (k (.bool false) ⟨[], []⟩) : Option Unit) := by kernel_rfl
theorem okc_65 (args : List (AV tau)) (m : Mem tau) (κ : AV tau → Mem tau → Option Unit) (hh : c_65 args m κ = some ()) : ∃ av m1, κ av m1 = some () ∧ ToldA Tryd.prog TT (pnT 65) 65 args m av m1 := by
 obtain ⟨bx_, rw_⟩ := m
 unfold c_65 at hh
 simp only at hh
 split at hh
 case h_2 => cases hh
 rename_i b0
 obtain ⟨a0, hx0, hh0⟩ := bO_some hh
 have ex0 := asI_some hx0
 subst ex0
 obtain ⟨N, t, h, hκ⟩ := callX_some hh0
 refine ⟨_, _, hκ, told_of_run pq okC_65 (fun _ _ _ => drawA_ok pq okC_65 hmix) (E := E_65) (fn := Tryd.f65) (body := B_65) (by kernel_rfl) (by kernel_rfl) (by kernel_rfl) (by rfl) (by exact Nat.le_of_ble_eq_true rfl) (fun k hk => ?_)⟩
 refine (w_65 a0 k).trans ?_
 replace h : spec_l1Num.f a0 = some t := h
 unfold spec_l1Num.f at h
 refine br_eti h rfl (fun c2 h => ?_) (fun c2 h => ?_)
 ·cases h; exact hk
 cases h; exact hk
noncomputable def C_95 : Ctr tau Unit := ctrS 65 c_65 C_65
noncomputable def D_95 : Drw tau := drawA E_95 C_95
theorem okC_95 : CtrOk Tryd.prog TT pnT C_95 := ctrS_ok okC_65 okc_65
theorem mC_95 : CtrMono C_95 := ctrS_mono mC_65 mc_65
theorem mD_95 : DrMono D_95 := drawA_mono mC_95
noncomputable def B_95 : Code := Tryd.f95.body.getD .skip
theorem mc_95 (args : List (AV tau)) (m : Mem tau) (k k' : AV tau → Mem tau → Option Unit) (hk : ∀ av m, k av m = some () → k' av m = some ()) (h : c_95 args m k = some ()) : c_95 args m k' = some () := by
 unfold c_95 at h ⊢
 split at h
 · repeat' first | exact callX_mono (fun _ h => hk _ _ h) h | refine bO_mono (fun _ h => ?_) h
 · cases h
theorem w_95 (a0 : Int) (k : AV tau → Mem tau → Option Unit) : fnA E_95 C_95 D_95 Tryd.f95 B_95 [.int .i64 a0] ⟨[], []⟩ k = (brA (decide (a0 ≥ (0 : Int))) (k (.bool (decide (a0 < (4 : Int)))) ⟨[], []⟩) (k (.bool false) ⟨[], []⟩) : Option Unit) := by kernel_rfl
theorem okc_95 (args : List (AV tau)) (m : Mem tau) (κ : AV tau → Mem tau → Option Unit) (hh : c_95 args m κ = some ()) : ∃ av m1, κ av m1 = some () ∧ ToldA Tryd.prog TT (pnT 95) 95 args m av m1 := by
 obtain ⟨bx_, rw_⟩ := m
 unfold c_95 at hh
 simp only at hh
 split at hh
 case h_2 => cases hh
 rename_i b0
 obtain ⟨a0, hx0, hh0⟩ := bO_some hh
 have ex0 := asI_some hx0
 subst ex0
 obtain ⟨N, t, h, hκ⟩ := callX_some hh0
 refine ⟨_, _, hκ, told_of_run pq okC_95 (fun _ _ _ => drawA_ok pq okC_95 hmix) (E := E_95) (fn := Tryd.f95) (body := B_95) (by kernel_rfl) (by kernel_rfl) (by kernel_rfl) (by rfl) (by exact Nat.le_of_ble_eq_true rfl) (fun k hk => ?_)⟩
 refine (w_95 a0 k).trans ?_
 replace h : spec_l2Reg.f a0 = some t := h
 unfold spec_l2Reg.f at h
 refine br_eti h rfl (fun c2 h => ?_) (fun c2 h => ?_)
 ·cases h; exact hk
 cases h; exact hk
noncomputable def C_96 : Ctr tau Unit := ctrS 95 c_95 C_95
noncomputable def D_96 : Drw tau := drawA E_96 C_96
theorem okC_96 : CtrOk Tryd.prog TT pnT C_96 := ctrS_ok okC_95 okc_95
theorem mC_96 : CtrMono C_96 := ctrS_mono mC_95 mc_95
theorem mD_96 : DrMono D_96 := drawA_mono mC_96
noncomputable def B_96 : Code := Tryd.f96.body.getD .skip
theorem mc_96 (args : List (AV tau)) (m : Mem tau) (k k' : AV tau → Mem tau → Option Unit) (hk : ∀ av m, k av m = some () → k' av m = some ()) (h : c_96 args m k = some ()) : c_96 args m k' = some () := by
 unfold c_96 at h ⊢
 split at h
 · repeat' first | exact callX_mono (fun _ h => hk _ _ h) h | refine bO_mono (fun _ h => ?_) h
 · cases h
theorem w_96 (a0 : Int) (k : AV tau → Mem tau → Option Unit) : fnA E_96 C_96 D_96 Tryd.f96 B_96 [.int .i64 a0] ⟨[], []⟩ k = (brA (decide (a0 ≥ (0 : Int))) (k (.bool (decide (a0 < (4 : Int)))) ⟨[], []⟩) (k (.bool false) ⟨[], []⟩) : Option Unit) := by kernel_rfl
theorem okc_96 (args : List (AV tau)) (m : Mem tau) (κ : AV tau → Mem tau → Option Unit) (hh : c_96 args m κ = some ()) : ∃ av m1, κ av m1 = some () ∧ ToldA Tryd.prog TT (pnT 96) 96 args m av m1 := by
 obtain ⟨bx_, rw_⟩ := m
 unfold c_96 at hh
 simp only at hh
 split at hh
 case h_2 => cases hh
 rename_i b0
 obtain ⟨a0, hx0, hh0⟩ := bO_some hh
 have ex0 := asI_some hx0
 subst ex0
 obtain ⟨N, t, h, hκ⟩ := callX_some hh0
 refine ⟨_, _, hκ, told_of_run pq okC_96 (fun _ _ _ => drawA_ok pq okC_96 hmix) (E := E_96) (fn := Tryd.f96) (body := B_96) (by kernel_rfl) (by kernel_rfl) (by kernel_rfl) (by rfl) (by exact Nat.le_of_ble_eq_true rfl) (fun k hk => ?_)⟩
 refine (w_96 a0 k).trans ?_
 replace h : spec_l2Box.f a0 = some t := h
 unfold spec_l2Box.f at h
 refine br_eti h rfl (fun c2 h => ?_) (fun c2 h => ?_)
 ·cases h; exact hk
 cases h; exact hk
noncomputable def C_75 : Ctr tau Unit := ctrS 96 c_96 C_96
noncomputable def D_75 : Drw tau := drawA E_75 C_75
theorem okC_75 : CtrOk Tryd.prog TT pnT C_75 := ctrS_ok okC_96 okc_96
theorem mC_75 : CtrMono C_75 := ctrS_mono mC_96 mc_96
theorem mD_75 : DrMono D_75 := drawA_mono mC_75
noncomputable def B_75 : Code := Tryd.f75.body.getD .skip
theorem mc_75 (args : List (AV tau)) (m : Mem tau) (k k' : AV tau → Mem tau → Option Unit) (hk : ∀ av m, k av m = some () → k' av m = some ()) (h : c_75 args m k = some ()) : c_75 args m k' = some () := by
 unfold c_75 at h ⊢
 split at h
 · repeat' first | exact callX_mono (fun _ h => hk _ _ h) h | refine bO_mono (fun _ h => ?_) h
 · cases h
theorem w_75 (a0_0 : Int) (a0_1 : Int) (a0_2 : Int) (a0_3 : Int) (k : AV tau → Mem tau → Option Unit) : fnA E_75 C_75 D_75 Tryd.f75 B_75 [.agg [.int .i64 a0_0, .int .i64 a0_1, .int .i64 a0_2, .int .i64 a0_3]] ⟨[], []⟩ k = (brA (decide (a0_0 = (1 : Int))) (callX (fun n => spec_l2Reg.f a0_1) fun t0 => brA t0 (callX (fun n => spec_l2Box.f a0_2) fun t1 => brA t1 (k (.bool (decide (a0_3 = (0 : Int)))) ⟨[], []⟩) (k (.bool false) ⟨[], []⟩)) (k (.bool false) ⟨[], []⟩)) (brA (decide (a0_0 = (2 : Int))) (callX (fun n => spec_l2Box.f a0_1) fun t2 => brA t2 (callX (fun n => spec_l2Reg.f a0_2) fun t3 => brA t3 (k (.bool (decide (a0_3 = (0 : Int)))) ⟨[], []⟩) (k (.bool false) ⟨[], []⟩)) (k (.bool false) ⟨[], []⟩)) (brA (decide (a0_0 = (3 : Int))) (callX (fun n => spec_l2Reg.f a0_1) fun t4 => brA t4 (brA (decide (a0_2 = (0 : Int))) (callX (fun n => spec_l1Num.f a0_3) fun t5 => k (.bool t5) ⟨[], []⟩) (k (.bool false) ⟨[], []⟩)) (k (.bool false) ⟨[], []⟩)) (brA (decide (a0_0 = (4 : Int))) (brA (decide (a0_0 = (4 : Int))) (callX (fun n => spec_l2Reg.f a0_1) fun t6 => brA t6 (callX (fun n => spec_l2Reg.f a0_2) fun t7 => brA t7 (k (.bool (decide (a0_3 = (0 : Int)))) ⟨[], []⟩) (k (.bool false) ⟨[], []⟩)) (k (.bool false) ⟨[], []⟩)) (brA (decide (a0_0 = (6 : Int))) (callX (fun n => spec_l2Reg.f a0_1) fun t8 => brA t8 (callX (fun n => spec_l2Reg.f a0_2) fun t9 => brA t9 (brA (decide (a0_3 ≥ (1 : Int))) (k (.bool (decide (a0_3 ≤ (10 : Int)))) ⟨[], []⟩) (k (.bool false) ⟨[], []⟩)) (k (.bool false) ⟨[], []⟩)) (k (.bool false) ⟨[], []⟩)) (brA (decide (a0_0 = (7 : Int))) (brA (decide (a0_1 = (0 : Int))) (brA (decide (a0_2 = (0 : Int))) (k (.bool (decide (a0_3 = (0 : Int)))) ⟨[], []⟩) (k (.bool false) ⟨[], []⟩)) (k (.bool false) ⟨[], []⟩)) (k (.bool false) ⟨[], []⟩)))) (brA (decide (a0_0 = (5 : Int))) (callX (fun n => spec_l2Reg.f a0_1) fun t10 => brA t10 (callX (fun n => spec_l2Reg.f a0_2) fun t11 => brA t11 (k (.bool (decide (a0_3 = (0 : Int)))) ⟨[], []⟩) (k (.bool false) ⟨[], []⟩)) (k (.bool false) ⟨[], []⟩)) (brA (decide (a0_0 = (6 : Int))) (callX (fun n => spec_l2Reg.f a0_1) fun t12 => brA t12 (callX (fun n => spec_l2Reg.f a0_2) fun t13 => brA t13 (brA (decide (a0_3 ≥ (1 : Int))) (k (.bool (decide (a0_3 ≤ (10 : Int)))) ⟨[], []⟩) (k (.bool false) ⟨[], []⟩)) (k (.bool false) ⟨[], []⟩)) (k (.bool false) ⟨[], []⟩)) (brA (decide (a0_0 = (7 : Int))) (brA (decide (a0_1 = (0 : Int))) (brA (decide (a0_2 = (0 : Int))) (k (.bool (decide (a0_3 = (0 : Int)))) ⟨[], []⟩) (k (.bool false) ⟨[], []⟩)) (k (.bool false) ⟨[], []⟩)) (k (.bool false) ⟨[], []⟩))))))) : Option Unit) := by kernel_rfl
theorem okc_75 (args : List (AV tau)) (m : Mem tau) (κ : AV tau → Mem tau → Option Unit) (hh : c_75 args m κ = some ()) : ∃ av m1, κ av m1 = some () ∧ ToldA Tryd.prog TT (pnT 75) 75 args m av m1 := by
 obtain ⟨bx_, rw_⟩ := m
 unfold c_75 at hh
 simp only at hh
 split at hh
 case h_2 => cases hh
 rename_i b0 b1 b2 b3
 obtain ⟨a0_0, hx0, hh0⟩ := bO_some hh
 obtain ⟨a0_1, hx1, hh1⟩ := bO_some hh0
 obtain ⟨a0_2, hx2, hh2⟩ := bO_some hh1
 obtain ⟨a0_3, hx3, hh3⟩ := bO_some hh2
 have ex0 := asI_some hx0
 have ex1 := asI_some hx1
 have ex2 := asI_some hx2
 have ex3 := asI_some hx3
 subst ex0 ex1 ex2 ex3
 obtain ⟨N, t, h, hκ⟩ := callX_some hh3
 refine ⟨_, _, hκ, told_of_run pq okC_75 (fun _ _ _ => drawA_ok pq okC_75 hmix) (E := E_75) (fn := Tryd.f75) (body := B_75) (by kernel_rfl) (by kernel_rfl) (by kernel_rfl) (by rfl) (by exact Nat.le_of_ble_eq_true rfl) (fun k hk => ?_)⟩
 refine (w_75 a0_0 a0_1 a0_2 a0_3 k).trans ?_
 replace h : spec_l2Ins.f N a0_0 a0_1 a0_2 a0_3 = some t := h
 unfold spec_l2Ins.f at h
 refine br_ite h rfl (fun c45 h => ?_) (fun c45 h => ?_)
 ·refine call_h 0 h (fun t0 e46 h => ?_)
  refine br_eti h dect (fun c47 h => ?_) (fun c47 h => ?_)
  ·cases h; exact hk
  refine call_h 0 h (fun t1 e48 h => ?_)
  refine br_eti h dect (fun c49 h => ?_) (fun c49 h => ?_)
  ·cases h; exact hk
  cases h; exact hk
 refine br_ite h rfl (fun c50 h => ?_) (fun c50 h => ?_)
 ·refine call_h 0 h (fun t2 e51 h => ?_)
  refine br_eti h dect (fun c52 h => ?_) (fun c52 h => ?_)
  ·cases h; exact hk
  refine call_h 0 h (fun t3 e53 h => ?_)
  refine br_eti h dect (fun c54 h => ?_) (fun c54 h => ?_)
  ·cases h; exact hk
  cases h; exact hk
 refine br_ite h rfl (fun c55 h => ?_) (fun c55 h => ?_)
 ·refine call_h 0 h (fun t4 e56 h => ?_)
  refine br_eti h dect (fun c57 h => ?_) (fun c57 h => ?_)
  ·cases h; exact hk
  refine br_eti h rfl (fun c58 h => ?_) (fun c58 h => ?_)
  ·cases h; exact hk
  refine call_h 0 h (fun t5 e59 h => ?_)
  cases h; exact hk
 refine br_ite h rfl (fun c60 h => ?_) (fun c60 h => ?_)
 ·rcases N with _ | N
  · cases h
  first | rw [spec_l2Ins.j0] at h | simp only [spec_l2Ins.j0] at h | (unfold spec_l2Ins.j0 at h; dsimp only at h)
  refine br_ite h (by first | rfl | exact dect | exact (congrArg not dect) | (simp; done) | (simp [beqI]; done) | (simp; omega)) (fun c61 h => ?_) (fun c61 h => ?_)
  ·refine call_h 0 h (fun t6 e62 h => ?_)
   refine br_eti h dect (fun c63 h => ?_) (fun c63 h => ?_)
   ·cases h; exact hk
   refine call_h 0 h (fun t7 e64 h => ?_)
   refine br_eti h dect (fun c65 h => ?_) (fun c65 h => ?_)
   ·cases h; exact hk
   cases h; exact hk
  refine br_eti h rfl (fun c66 h => ?_) (fun c66 h => ?_)
  ·refine br_eti h rfl (fun c67 h => ?_) (fun c67 h => ?_)
   ·cases h; exact hk
   refine br_eti h rfl (fun c68 h => ?_) (fun c68 h => ?_)
   ·cases h; exact hk
   refine br_eti h rfl (fun c69 h => ?_) (fun c69 h => ?_)
   ·cases h; exact hk
   cases h; exact hk
  refine call_h 0 h (fun t8 e70 h => ?_)
  refine br_eti h dect (fun c71 h => ?_) (fun c71 h => ?_)
  ·cases h; exact hk
  refine call_h 0 h (fun t9 e72 h => ?_)
  refine br_eti h dect (fun c73 h => ?_) (fun c73 h => ?_)
  ·cases h; exact hk
  refine br_eti h rfl (fun c74 h => ?_) (fun c74 h => ?_)
  ·cases h; exact hk
  cases h; exact hk
 rcases N with _ | N
 · cases h
 first | rw [spec_l2Ins.j0] at h | simp only [spec_l2Ins.j0] at h | (unfold spec_l2Ins.j0 at h; dsimp only at h)
 refine br_ite h (by first | rfl | exact dect | exact (congrArg not dect) | (simp; done) | (simp [beqI]; done) | (simp; omega)) (fun c75 h => ?_) (fun c75 h => ?_)
 ·refine call_h 0 h (fun t10 e76 h => ?_)
  refine br_eti h dect (fun c77 h => ?_) (fun c77 h => ?_)
  ·cases h; exact hk
  refine call_h 0 h (fun t11 e78 h => ?_)
  refine br_eti h dect (fun c79 h => ?_) (fun c79 h => ?_)
  ·cases h; exact hk
  cases h; exact hk
 refine br_eti h rfl (fun c80 h => ?_) (fun c80 h => ?_)
 ·refine br_eti h rfl (fun c81 h => ?_) (fun c81 h => ?_)
  ·cases h; exact hk
  refine br_eti h rfl (fun c82 h => ?_) (fun c82 h => ?_)
  ·cases h; exact hk
  refine br_eti h rfl (fun c83 h => ?_) (fun c83 h => ?_)
  ·cases h; exact hk
  cases h; exact hk
 refine call_h 0 h (fun t12 e84 h => ?_)
 refine br_eti h dect (fun c85 h => ?_) (fun c85 h => ?_)
 ·cases h; exact hk
 refine call_h 0 h (fun t13 e86 h => ?_)
 refine br_eti h dect (fun c87 h => ?_) (fun c87 h => ?_)
 ·cases h; exact hk
 refine br_eti h rfl (fun c88 h => ?_) (fun c88 h => ?_)
 ·cases h; exact hk
 cases h; exact hk
noncomputable def C_30 : Ctr tau Unit := ctrS 75 c_75 C_75
noncomputable def D_30 : Drw tau := drawA E_30 C_30
theorem okC_30 : CtrOk Tryd.prog TT pnT C_30 := ctrS_ok okC_75 okc_75
theorem mC_30 : CtrMono C_30 := ctrS_mono mC_75 mc_75
theorem mD_30 : DrMono D_30 := drawA_mono mC_30
noncomputable def B_30 : Code := Tryd.f30.body.getD .skip
theorem mc_30 (args : List (AV tau)) (m : Mem tau) (k k' : AV tau → Mem tau → Option Unit) (hk : ∀ av m, k av m = some () → k' av m = some ()) (h : c_30 args m k = some ()) : c_30 args m k' = some () := by
 unfold c_30 at h ⊢
 split at h
 · repeat' first | exact callX_mono (fun _ h => hk _ _ h) h | refine bO_mono (fun _ h => ?_) h
 · cases h
noncomputable def K_30_0 (k : AV tau → Mem tau → Option Unit) : Kon tau := (kBlock 0 (kS E_30 C_30 D_30 (codeP B_30 [1, 1, 1]) (kEnd E_30 Tryd.f30 k)))
def st_30_0 (x0 : (List S60)) (x1 : Int) : St tau := ⟨tmL 19 0 [(0, .sl 60 x0), (3, .int .i64 x1)], ⟨[], []⟩⟩
noncomputable def LP_30_0 (k : AV tau → Mem tau → Option Unit) (x0 : (List S60)) (x1 : Int) : Option Unit := loopA E_30 (codeA E_30 C_30 D_30 (codeP B_30 [1, 1, 0, 1, 0, 0])) (codeP B_30 [1, 1, 0, 1, 0, 0]) (K_30_0 k) (st_30_0 x0 x1)
theorem w_30_0 (k : AV tau → Mem tau → Option Unit) (x0 : (List S60)) (x1 : Int) : codeA E_30 C_30 D_30 (codeP B_30 [1, 1, 0, 1, 0, 0]) (kL E_30 C_30 D_30 (codeP B_30 [1, 1, 0, 1, 0, 0]) (K_30_0 k)) (st_30_0 x0 x1) = (brA (decide (x1 < ((x0.length : Nat) : Int))) (brA (decide ((0 : Int) ≤ x1)) (brA (decide (x1 < ((x0.length : Nat) : Int))) (callX (fun n => spec_l2Ins.f n ((rd_T60 x0 x1).f0) ((rd_T60 x0 x1).f1) ((rd_T60 x0 x1).f2) ((rd_T60 x0 x1).f3)) fun t0 => brA (!t0) (k (.bool false) ⟨[], []⟩) (LP_30_0 k x0 (wrap64 (x1 + (1 : Int))))) (none)) (none)) (k (.bool true) ⟨[], []⟩) : Option Unit) := by
 simp only [← wrapA_i64]
 kernel_rfl
theorem w_30 (l0 : List S60) (k : AV tau → Mem tau → Option Unit) : fnA E_30 C_30 D_30 Tryd.f30 B_30 [.sl 60 l0] ⟨[], []⟩ k = (brA (decide (((l0.length : Nat) : Int) > (10 : Int))) (k (.bool false) ⟨[], []⟩) (LP_30_0 k l0 (0 : Int)) : Option Unit) := by kernel_rfl
def S_30_0 (N : Nat) : Prop := ∀ (k : AV tau → Mem tau → Option Unit) (x0 : (List S60)) (x1 : Int) (r : Bool), spec_ProgOk.l0 N (x0) (x1) = some r → k (.bool (r)) ⟨[], []⟩ = some () → LP_30_0 k x0 x1 = some ()
theorem L_30 (N : Nat) : S_30_0 N := by
 induction N using Nat.strongRecOn with | _ N0 ih =>
 skip
 intro k x0 x1 r h hk
 rcases N0 with _ | N
 · cases h
 first | rw [spec_ProgOk.l0] at h | simp only [spec_ProgOk.l0] at h | (unfold spec_ProgOk.l0 at h; dsimp only at h)
 refine loop_fold mC_30 mD_30 ?_
 refine (w_30_0 k x0 x1).trans ?_
 refine br_eti h rfl (fun c11 h => ?_) (fun c11 h => ?_)
 ·cases h; exact hk
 refine br_g h rfl (fun c12 h => ?_)
 refine br_t (by first | (simp [c11]; done) | (simp; omega) | (simp only [List.length_append, List.length_cons, List.length_nil, List.length_take, List.length_drop] at c11 ⊢; simp; omega) | (simp only [List.length_append, List.length_cons, List.length_nil, List.length_take, List.length_drop] at c11; simp; omega) | (simp_all; done)) ?_
 refine call_h N h (fun t0 e13 h => ?_)
 refine br_etn h (congrArg not dect) (fun c14 h => ?_) (fun c14 h => ?_)
 ·cases h; exact hk
 exact (ih N (by omega)) _ _ _ _ h hk
theorem okc_30 (args : List (AV tau)) (m : Mem tau) (κ : AV tau → Mem tau → Option Unit) (hh : c_30 args m κ = some ()) : ∃ av m1, κ av m1 = some () ∧ ToldA Tryd.prog TT (pnT 30) 30 args m av m1 := by
 obtain ⟨bx_, rw_⟩ := m
 unfold c_30 at hh
 simp only at hh
 split at hh
 case h_2 => cases hh
 rename_i b0
 obtain ⟨l0, hx0, hh0⟩ := bO_some hh
 have ex0 := asSl_some hx0
 subst ex0
 obtain ⟨N, t, h, hκ⟩ := callX_some hh0
 refine ⟨_, _, hκ, told_of_run pq okC_30 (fun _ _ _ => drawA_ok pq okC_30 hmix) (E := E_30) (fn := Tryd.f30) (body := B_30) (by kernel_rfl) (by kernel_rfl) (by kernel_rfl) (by rfl) (by exact Nat.le_of_ble_eq_true rfl) (fun k hk => ?_)⟩
 refine (w_30 l0 k).trans ?_
 replace h : spec_ProgOk.f N l0 = some t := h
 unfold spec_ProgOk.f at h
 refine br_eti h rfl (fun c15 h => ?_) (fun c15 h => ?_)
 ·exact (L_30 N) _ _ _ _ h hk
 cases h; exact hk
noncomputable def C_76 : Ctr tau Unit := ctrS 30 c_30 C_30
noncomputable def D_76 : Drw tau := drawA E_76 C_76
theorem okC_76 : CtrOk Tryd.prog TT pnT C_76 := ctrS_ok okC_30 okc_30
theorem mC_76 : CtrMono C_76 := ctrS_mono mC_30 mc_30
theorem mD_76 : DrMono D_76 := drawA_mono mC_76
noncomputable def B_76 : Code := Tryd.f76.body.getD .skip
theorem mc_76 (args : List (AV tau)) (m : Mem tau) (k k' : AV tau → Mem tau → Option Unit) (hk : ∀ av m, k av m = some () → k' av m = some ()) (h : c_76 args m k = some ()) : c_76 args m k' = some () := by
 unfold c_76 at h ⊢
 split at h
 · repeat' first | exact callX_mono (fun _ h => hk _ _ h) h | refine bO_mono (fun _ h => ?_) h
 · cases h
noncomputable def K_76_0 (k : AV tau → Mem tau → Option Unit) : Kon tau := (kBlock 0 (kS E_76 C_76 D_76 (codeP B_76 [1, 1, 1]) (kEnd E_76 Tryd.f76 k)))
def st_76_0 (x0 : (List S60)) (x1 : (List S60)) (x2 : Int) (x3 : Int) : St tau := ⟨tmL 26 0 [(0, .sl 60 x0), (1, .sl 60 x1), (12, .int .i64 x2), (13, .int .i64 x3)], ⟨[], []⟩⟩
noncomputable def LP_76_0 (k : AV tau → Mem tau → Option Unit) (x0 : (List S60)) (x1 : (List S60)) (x2 : Int) (x3 : Int) : Option Unit := loopA E_76 (codeA E_76 C_76 D_76 (codeP B_76 [1, 1, 0, 1, 0, 0])) (codeP B_76 [1, 1, 0, 1, 0, 0]) (K_76_0 k) (st_76_0 x0 x1 x2 x3)
theorem w_76_0 (k : AV tau → Mem tau → Option Unit) (x0 : (List S60)) (x1 : (List S60)) (x2 : Int) (x3 : Int) : codeA E_76 C_76 D_76 (codeP B_76 [1, 1, 0, 1, 0, 0]) (kL E_76 C_76 D_76 (codeP B_76 [1, 1, 0, 1, 0, 0]) (K_76_0 k)) (st_76_0 x0 x1 x2 x3) = (brA (decide (x3 < x2)) (brA (decide ((0 : Int) ≤ x3)) (brA (decide (x3 < ((x0.length : Nat) : Int))) (brA (decide ((0 : Int) ≤ x3)) (brA (decide (x3 < ((x1.length : Nat) : Int))) (brA (!(((rd_T60 x0 x3).f0 == (rd_T60 x1 x3).f0) && (((rd_T60 x0 x3).f1 == (rd_T60 x1 x3).f1) && (((rd_T60 x0 x3).f2 == (rd_T60 x1 x3).f2) && ((rd_T60 x0 x3).f3 == (rd_T60 x1 x3).f3))))) (k (.bool false) ⟨[], []⟩) (LP_76_0 k x0 x1 x2 (wrap64 (x3 + (1 : Int))))) (none)) (none)) (none)) (none)) (k (.bool true) ⟨[], []⟩) : Option Unit) := by
 simp only [← wrapA_i64]
 kernel_rfl
theorem w_76 (l0 : List S60) (l1 : List S60) (k : AV tau → Mem tau → Option Unit) : fnA E_76 C_76 D_76 Tryd.f76 B_76 [.sl 60 l0, .sl 60 l1] ⟨[], []⟩ k = (brA (!(decide (((l0.length : Nat) : Int) = ((l1.length : Nat) : Int)))) (k (.bool false) ⟨[], []⟩) (LP_76_0 k l0 l1 ((l0.length : Nat) : Int) (0 : Int)) : Option Unit) := by kernel_rfl
def S_76_0 (N : Nat) : Prop := ∀ (k : AV tau → Mem tau → Option Unit) (x0 : (List S60)) (x1 : (List S60)) (x2 : Int) (x3 : Int) (r : Bool), impl_same_impl_Ins.l0 N (x0) (x1) (x2) (x3) = some r → k (.bool (r)) ⟨[], []⟩ = some () → LP_76_0 k x0 x1 x2 x3 = some ()
theorem L_76 (N : Nat) : S_76_0 N := by
 induction N using Nat.strongRecOn with | _ N0 ih =>
 skip
 intro k x0 x1 x2 x3 r h hk
 rcases N0 with _ | N
 · cases h
 first | rw [impl_same_impl_Ins.l0] at h | simp only [impl_same_impl_Ins.l0] at h | (unfold impl_same_impl_Ins.l0 at h; dsimp only at h)
 refine loop_fold mC_76 mD_76 ?_
 refine (w_76_0 k x0 x1 x2 x3).trans ?_
 refine br_eti h rfl (fun c13 h => ?_) (fun c13 h => ?_)
 ·cases h; exact hk
 refine br_g h rfl (fun c14 h => ?_)
 refine br_g h rfl (fun c15 h => ?_)
 refine br_t (by first | (simp [c14]; done) | (simp; omega) | (simp only [List.length_append, List.length_cons, List.length_nil, List.length_take, List.length_drop] at c15 ⊢; simp; omega) | (simp only [List.length_append, List.length_cons, List.length_nil, List.length_take, List.length_drop] at c15; simp; omega) | (simp_all; done)) ?_
 refine br_g h rfl (fun c16 h => ?_)
 refine br_ite h (by first | rfl | exact dect | exact (congrArg not dect) | (simp; done) | (simp [beqI]; done) | (simp; omega)) (fun c17 h => ?_) (fun c17 h => ?_)
 ·cases h; exact hk
 exact (ih N (by omega)) _ _ _ _ _ _ h hk
theorem okc_76 (args : List (AV tau)) (m : Mem tau) (κ : AV tau → Mem tau → Option Unit) (hh : c_76 args m κ = some ()) : ∃ av m1, κ av m1 = some () ∧ ToldA Tryd.prog TT (pnT 76) 76 args m av m1 := by
 obtain ⟨bx_, rw_⟩ := m
 unfold c_76 at hh
 simp only at hh
 split at hh
 case h_2 => cases hh
 rename_i b0 b1
 obtain ⟨l0, hx0, hh0⟩ := bO_some hh
 obtain ⟨l1, hx1, hh1⟩ := bO_some hh0
 have ex0 := asSl_some hx0
 have ex1 := asSl_some hx1
 subst ex0 ex1
 obtain ⟨N, t, h, hκ⟩ := callX_some hh1
 refine ⟨_, _, hκ, told_of_run pq okC_76 (fun _ _ _ => drawA_ok pq okC_76 hmix) (E := E_76) (fn := Tryd.f76) (body := B_76) (by kernel_rfl) (by kernel_rfl) (by kernel_rfl) (by rfl) (by exact Nat.le_of_ble_eq_true rfl) (fun k hk => ?_)⟩
 refine (w_76 l0 l1 k).trans ?_
 replace h : impl_same_impl_Ins.f N l0 l1 = some t := h
 unfold impl_same_impl_Ins.f at h
 refine br_etn h rfl (fun c18 h => ?_) (fun c18 h => ?_)
 ·cases h; exact hk
 exact (L_76 N) _ _ _ _ _ _ h hk
noncomputable def C_31 : Ctr tau Unit := ctrS 76 c_76 C_76
noncomputable def D_31 : Drw tau := drawA E_31 C_31
theorem okC_31 : CtrOk Tryd.prog TT pnT C_31 := ctrS_ok okC_76 okc_76
theorem mC_31 : CtrMono C_31 := ctrS_mono mC_76 mc_76
theorem mD_31 : DrMono D_31 := drawA_mono mC_31
noncomputable def B_31 : Code := Tryd.f31.body.getD .skip
theorem mc_31 (args : List (AV tau)) (m : Mem tau) (k k' : AV tau → Mem tau → Option Unit) (hk : ∀ av m, k av m = some () → k' av m = some ()) (h : c_31 args m k = some ()) : c_31 args m k' = some () := by
 unfold c_31 at h ⊢
 split at h
 · repeat' first | exact callX_mono (fun _ h => hk _ _ h) h | refine bO_mono (fun _ h => ?_) h
 · cases h
theorem w_31 (l0 : List S60) (l1 : List S60) (k : AV tau → Mem tau → Option Unit) : fnA E_31 C_31 D_31 Tryd.f31 B_31 [.sl 60 l0, .sl 60 l1] ⟨[], []⟩ k = (callX (fun n => impl_same_impl_Ins.f n l0 l1) fun t0 => k (.bool t0) ⟨[], []⟩ : Option Unit) := by kernel_rfl
theorem okc_31 (args : List (AV tau)) (m : Mem tau) (κ : AV tau → Mem tau → Option Unit) (hh : c_31 args m κ = some ()) : ∃ av m1, κ av m1 = some () ∧ ToldA Tryd.prog TT (pnT 31) 31 args m av m1 := by
 obtain ⟨bx_, rw_⟩ := m
 unfold c_31 at hh
 simp only at hh
 split at hh
 case h_2 => cases hh
 rename_i b0 b1
 obtain ⟨l0, hx0, hh0⟩ := bO_some hh
 obtain ⟨l1, hx1, hh1⟩ := bO_some hh0
 have ex0 := asSl_some hx0
 have ex1 := asSl_some hx1
 subst ex0 ex1
 obtain ⟨N, t, h, hκ⟩ := callX_some hh1
 refine ⟨_, _, hκ, told_of_run pq okC_31 (fun _ _ _ => drawA_ok pq okC_31 hmix) (E := E_31) (fn := Tryd.f31) (body := B_31) (by kernel_rfl) (by kernel_rfl) (by kernel_rfl) (by rfl) (by exact Nat.le_of_ble_eq_true rfl) (fun k hk => ?_)⟩
 refine (w_31 l0 l1 k).trans ?_
 replace h : impl_ProgSame.f N l0 l1 = some t := h
 unfold impl_ProgSame.f at h
 refine call_h N h (fun t0 e2 h => ?_)
 cases h; exact hk
noncomputable def C_97 : Ctr tau Unit := ctrS 31 c_31 C_31
noncomputable def D_97 : Drw tau := drawA E_97 C_97
theorem okC_97 : CtrOk Tryd.prog TT pnT C_97 := ctrS_ok okC_31 okc_31
theorem mC_97 : CtrMono C_97 := ctrS_mono mC_31 mc_31
theorem mD_97 : DrMono D_97 := drawA_mono mC_97
noncomputable def B_97 : Code := Tryd.f97.body.getD .skip
theorem mc_97 (args : List (AV tau)) (m : Mem tau) (k k' : AV tau → Mem tau → Option Unit) (hk : ∀ av m, k av m = some () → k' av m = some ()) (h : c_97 args m k = some ()) : c_97 args m k' = some () := by
 unfold c_97 at h ⊢
 split at h
 · repeat' first | exact callX_mono (fun _ h => hk _ _ h) h | refine bO_mono (fun _ h => ?_) h
 · cases h
theorem w_97 (l0 : List Int) (k : AV tau → Mem tau → Option Unit) : fnA E_97 C_97 D_97 Tryd.f97 B_97 [.sl 3 l0] ⟨[], []⟩ k = (brA (decide (((l0.length : Nat) : Int) = (0 : Int))) (k (.own 0 0) ⟨[], [some ⟨3, ([] : List Int), 0⟩]⟩) (brA (decide ((Int.toNat ((l0.length : Nat) : Int)) ≤ 35184372088832)) (k (.own 0 0) ⟨[], [some ⟨3, ((List.take ((List.replicate (Int.toNat ((l0.length : Nat) : Int)) (0 : Int)).length) l0) ++ (List.drop l0.length (List.replicate (Int.toNat ((l0.length : Nat) : Int)) (0 : Int)))), 0⟩]⟩) (none)) : Option Unit) := by kernel_rfl
theorem okc_97 (args : List (AV tau)) (m : Mem tau) (κ : AV tau → Mem tau → Option Unit) (hh : c_97 args m κ = some ()) : ∃ av m1, κ av m1 = some () ∧ ToldA Tryd.prog TT (pnT 97) 97 args m av m1 := by
 obtain ⟨bx_, rw_⟩ := m
 unfold c_97 at hh
 simp only at hh
 split at hh
 case h_2 => cases hh
 rename_i b0
 obtain ⟨l0, hx0, hh0⟩ := bO_some hh
 have ex0 := asSl_some hx0
 subst ex0
 obtain ⟨N, t, h, hκ⟩ := callX_some hh0
 refine ⟨_, _, hκ, told_of_run pq okC_97 (fun _ _ _ => drawA_ok pq okC_97 hmix) (E := E_97) (fn := Tryd.f97) (body := B_97) (by kernel_rfl) (by kernel_rfl) (by kernel_rfl) (by rfl) (by exact Nat.le_of_ble_eq_true rfl) (fun k hk => ?_)⟩
 refine (w_97 l0 k).trans ?_
 replace h : impl_copied_int.f l0 = some t := h
 unfold impl_copied_int.f at h
 refine ite_x h (fun c1 h => ?_) (fun _ h => by cases h)
 cases h
 exact copied_of (α := Int) l0 _ _ (k := fun q : List Int => k (.own 0 0) ⟨[], [some ⟨3, q, 0⟩]⟩) c1 hk
noncomputable def C_77 : Ctr tau Unit := ctrS 97 c_97 C_97
noncomputable def D_77 : Drw tau := drawA E_77 C_77
theorem okC_77 : CtrOk Tryd.prog TT pnT C_77 := ctrS_ok okC_97 okc_97
theorem mC_77 : CtrMono C_77 := ctrS_mono mC_97 mc_97
theorem mD_77 : DrMono D_77 := drawA_mono mC_77
noncomputable def B_77 : Code := Tryd.f77.body.getD .skip
theorem mc_77 (args : List (AV tau)) (m : Mem tau) (k k' : AV tau → Mem tau → Option Unit) (hk : ∀ av m, k av m = some () → k' av m = some ()) (h : c_77 args m k = some ()) : c_77 args m k' = some () := by
 unfold c_77 at h ⊢
 split at h
 · repeat' first | exact callX_mono (fun _ h => hk _ _ h) h | refine bO_mono (fun _ h => ?_) h
 · cases h
noncomputable def K_77_0 (k : AV tau → Mem tau → Option Unit) : Kon tau := (kBlock 0 (kS E_77 C_77 D_77 (codeP B_77 [1, 1, 1]) (kEnd E_77 Tryd.f77 k)))
def st_77_0 (x0 : Bool) (x1 : Bool) (x2 : Bool) (x3 : Bool) (x4 : Int) (x5 : (List Int)) : St tau := ⟨tmL 19 0 [(3, .own 0 0), (6, .agg [.bool x0, .bool x1, .bool x2, .bool x3]), (7, .int .i64 x4)], ⟨[], [some ⟨3, x5, 0⟩]⟩⟩
noncomputable def LP_77_0 (k : AV tau → Mem tau → Option Unit) (x0 : Bool) (x1 : Bool) (x2 : Bool) (x3 : Bool) (x4 : Int) (x5 : (List Int)) : Option Unit := loopA E_77 (codeA E_77 C_77 D_77 (codeP B_77 [1, 1, 0, 1, 0, 0])) (codeP B_77 [1, 1, 0, 1, 0, 0]) (K_77_0 k) (st_77_0 x0 x1 x2 x3 x4 x5)
theorem w_77_0 (k : AV tau → Mem tau → Option Unit) (x0 : Bool) (x1 : Bool) (x2 : Bool) (x3 : Bool) (x4 : Int) (x5 : (List Int)) : codeA E_77 C_77 D_77 (codeP B_77 [1, 1, 0, 1, 0, 0]) (kL E_77 C_77 D_77 (codeP B_77 [1, 1, 0, 1, 0, 0]) (K_77_0 k)) (st_77_0 x0 x1 x2 x3 x4 x5) = (brA (decide (x4 < (4 : Int))) (brA (decide ((0 : Int) ≤ x4)) (brA (decide (x4 < (4 : Int))) (brA (rdOf false ([x0, x1, x2, x3] : List Bool) x4) (brA (decide ((x5.length + 1) ≤ 17592186044416)) (LP_77_0 k x0 x1 x2 x3 (wrap64 (x4 + (1 : Int))) (x5 ++ ([x4] : List Int))) (none)) (LP_77_0 k x0 x1 x2 x3 (wrap64 (x4 + (1 : Int))) x5)) (none)) (none)) (callX (fun n => impl_copied_int.f x5) fun t0 => k (.own 0 0) ⟨[], [some ⟨3, t0, 0⟩]⟩) : Option Unit) := by
 simp only [← wrapA_i64]
 kernel_rfl
theorem w_77 (a0_0 : Bool) (a0_1 : Bool) (a0_2 : Bool) (a0_3 : Bool) (k : AV tau → Mem tau → Option Unit) : fnA E_77 C_77 D_77 Tryd.f77 B_77 [.agg [.bool a0_0, .bool a0_1, .bool a0_2, .bool a0_3]] ⟨[], []⟩ k = (LP_77_0 k a0_0 a0_1 a0_2 a0_3 (0 : Int) ([] : List Int) : Option Unit) := by kernel_rfl
def S_77_0 (N : Nat) : Prop := ∀ (k : AV tau → Mem tau → Option Unit) (x0 : Bool) (x1 : Bool) (x2 : Bool) (x3 : Bool) (x4 : Int) (x5 : (List Int)) (r : List Int), impl_boxesOf.l0 N (x5) (x4) (x0) (x1) (x2) (x3) = some r → k (.own 0 0) ⟨[], [some ⟨3, r, 0⟩]⟩ = some () → LP_77_0 k x0 x1 x2 x3 x4 x5 = some ()
theorem L_77 (N : Nat) : S_77_0 N := by
 induction N using Nat.strongRecOn with | _ N0 ih =>
 skip
 intro k x0 x1 x2 x3 x4 x5 r h hk
 rcases N0 with _ | N
 · cases h
 first | rw [impl_boxesOf.l0] at h | simp only [impl_boxesOf.l0] at h | (unfold impl_boxesOf.l0 at h; dsimp only at h)
 refine loop_fold mC_77 mD_77 ?_
 refine (w_77_0 k x0 x1 x2 x3 x4 x5).trans ?_
 refine br_eti h rfl (fun c11 h => ?_) (fun c11 h => ?_)
 ·refine call_h 0 h (fun t0 e12 h => ?_)
  cases h; exact hk
 refine br_g h rfl (fun c13 h => ?_)
 refine br_t (by first | (simp [c11]; done) | (simp; omega) | (simp_all; done)) ?_
 refine br_eti h dect (fun c14 h => ?_) (fun c14 h => ?_)
 ·exact (ih N (by omega)) _ _ _ _ _ _ _ _ h hk
 refine br_g h (by first | rfl | exact dect | exact (congrArg not dect) | (simp; done) | (simp [beqI]; done) | (simp; omega)) (fun c15 h => ?_)
 exact (ih N (by omega)) _ _ _ _ _ _ _ _ h hk
theorem okc_77 (args : List (AV tau)) (m : Mem tau) (κ : AV tau → Mem tau → Option Unit) (hh : c_77 args m κ = some ()) : ∃ av m1, κ av m1 = some () ∧ ToldA Tryd.prog TT (pnT 77) 77 args m av m1 := by
 obtain ⟨bx_, rw_⟩ := m
 unfold c_77 at hh
 simp only at hh
 split at hh
 case h_2 => cases hh
 rename_i b0 b1 b2 b3
 obtain ⟨a0_0, hx0, hh0⟩ := bO_some hh
 obtain ⟨a0_1, hx1, hh1⟩ := bO_some hh0
 obtain ⟨a0_2, hx2, hh2⟩ := bO_some hh1
 obtain ⟨a0_3, hx3, hh3⟩ := bO_some hh2
 have ex0 := asB_some hx0
 have ex1 := asB_some hx1
 have ex2 := asB_some hx2
 have ex3 := asB_some hx3
 subst ex0 ex1 ex2 ex3
 obtain ⟨N, t, h, hκ⟩ := callX_some hh3
 refine ⟨_, _, hκ, told_of_run pq okC_77 (fun _ _ _ => drawA_ok pq okC_77 hmix) (E := E_77) (fn := Tryd.f77) (body := B_77) (by kernel_rfl) (by kernel_rfl) (by kernel_rfl) (by rfl) (by exact Nat.le_of_ble_eq_true rfl) (fun k hk => ?_)⟩
 refine (w_77 a0_0 a0_1 a0_2 a0_3 k).trans ?_
 replace h : impl_boxesOf.f N a0_0 a0_1 a0_2 a0_3 = some t := h
 unfold impl_boxesOf.f at h
 exact (L_77 N) _ _ _ _ _ _ _ _ h hk
noncomputable def C_34 : Ctr tau Unit := ctrS 77 c_77 C_77
noncomputable def D_34 : Drw tau := drawA E_34 C_34
theorem okC_34 : CtrOk Tryd.prog TT pnT C_34 := ctrS_ok okC_77 okc_77
theorem mC_34 : CtrMono C_34 := ctrS_mono mC_77 mc_77
theorem mD_34 : DrMono D_34 := drawA_mono mC_34
noncomputable def B_34 : Code := Tryd.f34.body.getD .skip
theorem mc_34 (args : List (AV tau)) (m : Mem tau) (k k' : AV tau → Mem tau → Option Unit) (hk : ∀ av m, k av m = some () → k' av m = some ()) (h : c_34 args m k = some ()) : c_34 args m k' = some () := by
 unfold c_34 at h ⊢
 split at h
 · repeat' first | exact callX_mono (fun _ h => hk _ _ h) h | refine bO_mono (fun _ h => ?_) h
 · cases h
noncomputable def K_34_0 (k : AV tau → Mem tau → Option Unit) : Kon tau := (kBlock 0 (kS E_34 C_34 D_34 (codeP B_34 [1, 1, 1]) (kEnd E_34 Tryd.f34 k)))
def st_34_0 (x0 : (List S60)) (x1 : Int) (x2 : Int) (x3 : Bool) (x4 : Bool) (x5 : Bool) (x6 : Bool) : St tau := ⟨tmL 26 0 [(3, .ptr 0 0), (6, .sl 60 x0), (7, .int .i64 x1), (8, .int .i64 x2)], ⟨[some (86, [.bool x3, .bool x4, .bool x5, .bool x6])], []⟩⟩
noncomputable def LP_34_0 (k : AV tau → Mem tau → Option Unit) (x0 : (List S60)) (x1 : Int) (x2 : Int) (x3 : Bool) (x4 : Bool) (x5 : Bool) (x6 : Bool) : Option Unit := loopA E_34 (codeA E_34 C_34 D_34 (codeP B_34 [1, 1, 0, 1, 0, 0])) (codeP B_34 [1, 1, 0, 1, 0, 0]) (K_34_0 k) (st_34_0 x0 x1 x2 x3 x4 x5 x6)
theorem w_34_0 (k : AV tau → Mem tau → Option Unit) (x0 : (List S60)) (x1 : Int) (x2 : Int) (x3 : Bool) (x4 : Bool) (x5 : Bool) (x6 : Bool) : codeA E_34 C_34 D_34 (codeP B_34 [1, 1, 0, 1, 0, 0]) (kL E_34 C_34 D_34 (codeP B_34 [1, 1, 0, 1, 0, 0]) (K_34_0 k)) (st_34_0 x0 x1 x2 x3 x4 x5 x6) = (brA (decide (x2 < x1)) (brA (decide ((0 : Int) ≤ x2)) (brA (decide (x2 < ((x0.length : Nat) : Int))) (brA (decide ((rd_T60 x0 x2).f0 = (2 : Int))) (callX (fun n => impl_in.f ((rd_T60 x0 x2).f1) (0 : Int) (3 : Int)) fun t0 => brA t0 (brA (decide ((0 : Int) ≤ (rd_T60 x0 x2).f1)) (brA (decide ((rd_T60 x0 x2).f1 < (4 : Int))) (LP_34_0 k x0 x1 (wrap64 (x2 + (1 : Int))) (if (rd_T60 x0 x2).f1 = (0 : Int) then true else x3) (if (rd_T60 x0 x2).f1 = (1 : Int) then true else x4) (if (rd_T60 x0 x2).f1 = (2 : Int) then true else x5) (if (rd_T60 x0 x2).f1 = (3 : Int) then true else x6)) (none)) (none)) (LP_34_0 k x0 x1 (wrap64 (x2 + (1 : Int))) x3 x4 x5 x6)) (LP_34_0 k x0 x1 (wrap64 (x2 + (1 : Int))) x3 x4 x5 x6)) (none)) (none)) (callX (fun n => impl_boxesOf.f n x3 x4 x5 x6) fun t1 => k (.own 0 0) ⟨[], [some ⟨3, t1, 0⟩]⟩) : Option Unit) := by
 simp only [← wrapA_i64]
 kernel_rfl
theorem w_34 (l0 : List S60) (k : AV tau → Mem tau → Option Unit) : fnA E_34 C_34 D_34 Tryd.f34 B_34 [.sl 60 l0] ⟨[], []⟩ k = (LP_34_0 k l0 ((l0.length : Nat) : Int) (0 : Int) false false false false : Option Unit) := by kernel_rfl
def S_34_0 (N : Nat) : Prop := ∀ (k : AV tau → Mem tau → Option Unit) (x0 : (List S60)) (x1 : Int) (x2 : Int) (x3 : Bool) (x4 : Bool) (x5 : Bool) (x6 : Bool) (r : List Int), impl_ProgPuts.l0 N (x0) (x1) (x2) (x3) (x4) (x5) (x6) = some r → k (.own 0 0) ⟨[], [some ⟨3, r, 0⟩]⟩ = some () → LP_34_0 k x0 x1 x2 x3 x4 x5 x6 = some ()
theorem L_34 (N : Nat) : S_34_0 N := by
 induction N using Nat.strongRecOn with | _ N0 ih =>
 skip
 intro k x0 x1 x2 x3 x4 x5 x6 r h hk
 rcases N0 with _ | N
 · cases h
 first | rw [impl_ProgPuts.l0] at h | simp only [impl_ProgPuts.l0] at h | (unfold impl_ProgPuts.l0 at h; dsimp only at h)
 refine loop_fold mC_34 mD_34 ?_
 refine (w_34_0 k x0 x1 x2 x3 x4 x5 x6).trans ?_
 refine br_eti h rfl (fun c19 h => ?_) (fun c19 h => ?_)
 ·refine call_h N h (fun t1 e20 h => ?_)
  cases h; exact hk
 refine br_g h rfl (fun c21 h => ?_)
 refine br_g h rfl (fun c22 h => ?_)
 refine br_eti h rfl (fun c23 h => ?_) (fun c23 h => ?_)
 ·exact (ih N (by omega)) _ _ _ _ _ _ _ _ _ h hk
 refine call_h 0 h (fun t0 e24 h => ?_)
 refine br_eti h dect (fun c25 h => ?_) (fun c25 h => ?_)
 ·exact (ih N (by omega)) _ _ _ _ _ _ _ _ _ h hk
 refine br_g h rfl (fun c26 h => ?_)
 refine br_g h rfl (fun c27 h => ?_)
 exact (ih N (by omega)) _ _ _ _ _ _ _ _ _ h hk
theorem okc_34 (args : List (AV tau)) (m : Mem tau) (κ : AV tau → Mem tau → Option Unit) (hh : c_34 args m κ = some ()) : ∃ av m1, κ av m1 = some () ∧ ToldA Tryd.prog TT (pnT 34) 34 args m av m1 := by
 obtain ⟨bx_, rw_⟩ := m
 unfold c_34 at hh
 simp only at hh
 split at hh
 case h_2 => cases hh
 rename_i b0
 obtain ⟨l0, hx0, hh0⟩ := bO_some hh
 have ex0 := asSl_some hx0
 subst ex0
 obtain ⟨N, t, h, hκ⟩ := callX_some hh0
 refine ⟨_, _, hκ, told_of_run pq okC_34 (fun _ _ _ => drawA_ok pq okC_34 hmix) (E := E_34) (fn := Tryd.f34) (body := B_34) (by kernel_rfl) (by kernel_rfl) (by kernel_rfl) (by rfl) (by exact Nat.le_of_ble_eq_true rfl) (fun k hk => ?_)⟩
 refine (w_34 l0 k).trans ?_
 replace h : impl_ProgPuts.f N l0 = some t := h
 unfold impl_ProgPuts.f at h
 exact (L_34 N) _ _ _ _ _ _ _ _ _ h hk
noncomputable def C_57 : Ctr tau Unit := ctrS 34 c_34 C_34
noncomputable def D_57 : Drw tau := drawA E_57 C_57
theorem okC_57 : CtrOk Tryd.prog TT pnT C_57 := ctrS_ok okC_34 okc_34
theorem mC_57 : CtrMono C_57 := ctrS_mono mC_34 mc_34
theorem mD_57 : DrMono D_57 := drawA_mono mC_57
noncomputable def B_57 : Code := Tryd.f57.body.getD .skip
theorem mc_57 (args : List (AV tau)) (m : Mem tau) (k k' : AV tau → Mem tau → Option Unit) (hk : ∀ av m, k av m = some () → k' av m = some ()) (h : c_57 args m k = some ()) : c_57 args m k' = some () := by
 unfold c_57 at h ⊢
 split at h
 · repeat' first | exact callX_mono (fun _ h => hk _ _ h) h | refine bO_mono (fun _ h => ?_) h
 · cases h
theorem w_57 (l0 : List Int) (k : AV tau → Mem tau → Option Unit) : fnA E_57 C_57 D_57 Tryd.f57 B_57 [.sl 5 l0] ⟨[], []⟩ k = (brA (decide (((l0.length : Nat) : Int) > (2000 : Int))) (brA (decide ((2000 : Int) ≤ ((l0.length : Nat) : Int))) (k (.ptr 0 0) ⟨[some (98, [.sl 5 (List.take 2000 l0), .int .i64 (0 : Int)])], []⟩) (none)) (k (.ptr 0 0) ⟨[some (98, [.sl 5 l0, .int .i64 (0 : Int)])], []⟩) : Option Unit) := by kernel_rfl
theorem okc_57 (args : List (AV tau)) (m : Mem tau) (κ : AV tau → Mem tau → Option Unit) (hh : c_57 args m κ = some ()) : ∃ av m1, κ av m1 = some () ∧ ToldA Tryd.prog TT (pnT 57) 57 args m av m1 := by
 obtain ⟨bx_, rw_⟩ := m
 unfold c_57 at hh
 simp only at hh
 split at hh
 case h_2 => cases hh
 rename_i b0
 obtain ⟨l0, hx0, hh0⟩ := bO_some hh
 have ex0 := asSl_some hx0
 subst ex0
 obtain ⟨N, t, h, hκ⟩ := callX_some hh0
 refine ⟨_, _, hκ, told_of_run pq okC_57 (fun _ _ _ => drawA_ok pq okC_57 hmix) (E := E_57) (fn := Tryd.f57) (body := B_57) (by kernel_rfl) (by kernel_rfl) (by kernel_rfl) (by rfl) (by exact Nat.le_of_ble_eq_true rfl) (fun k hk => ?_)⟩
 refine (w_57 l0 k).trans ?_
 replace h : spec_l15Open.f l0 = some t := h
 unfold spec_l15Open.f at h
 refine br_eti h rfl (fun c3 h => ?_) (fun c3 h => ?_)
 ·cases h; exact hk
 refine br_g h rfl (fun c4 h => ?_)
 cases h; exact hk
noncomputable def C_67 : Ctr tau Unit := ctrS 57 c_57 C_57
noncomputable def D_67 : Drw tau := drawA E_67 C_67
theorem okC_67 : CtrOk Tryd.prog TT pnT C_67 := ctrS_ok okC_57 okc_57
theorem mC_67 : CtrMono C_67 := ctrS_mono mC_57 mc_57
theorem mD_67 : DrMono D_67 := drawA_mono mC_67
noncomputable def B_67 : Code := Tryd.f67.body.getD .skip
theorem mc_67 (args : List (AV tau)) (m : Mem tau) (k k' : AV tau → Mem tau → Option Unit) (hk : ∀ av m, k av m = some () → k' av m = some ()) (h : c_67 args m k = some ()) : c_67 args m k' = some () := by
 unfold c_67 at h ⊢
 split at h
 · repeat' first | exact callX_mono (fun _ h => hk _ _ h) h | refine bO_mono (fun _ h => ?_) h
 · cases h
theorem w_67 (s0_0 : List Int) (s0_1 : Int) (a1 : Int) (k : AV tau → Mem tau → Option Unit) : fnA E_67 C_67 D_67 Tryd.f67 B_67 [.ptr 0 0, .int .i64 a1] ⟨[some (98, [.sl 5 s0_0, .int .i64 s0_1])], []⟩ k = (brA (decide (a1 < (1 : Int))) (k (.int .i64 (0 : Int)) ⟨[some (98, [.sl 5 s0_0, .int .i64 (wrap64 (s0_1 + (1 : Int)))])], []⟩) (brA (decide (((s0_0.length : Nat) : Int) = (0 : Int))) (k (.int .i64 (0 : Int)) ⟨[some (98, [.sl 5 s0_0, .int .i64 (wrap64 (s0_1 + (1 : Int)))])], []⟩) (brA (decide ((wrap64 ((wrap64 (s0_1 + (1 : Int))) - (1 : Int))) < ((s0_0.length : Nat) : Int))) (brA (decide ((0 : Int) ≤ (wrap64 ((wrap64 (s0_1 + (1 : Int))) - (1 : Int))))) (brA (decide ((wrap64 ((wrap64 (s0_1 + (1 : Int))) - (1 : Int))) < ((s0_0.length : Nat) : Int))) (brA (!(decide (a1 = (0 : Int)))) (k (.int .i64 (Int.tmod (wrap64 (rd s0_0 (wrap64 ((wrap64 (s0_1 + (1 : Int))) - (1 : Int))))) a1)) ⟨[some (98, [.sl 5 s0_0, .int .i64 (wrap64 (s0_1 + (1 : Int)))])], []⟩) (none)) (none)) (none)) (brA (!(decide (((s0_0.length : Nat) : Int) = (0 : Int)))) (brA (decide ((0 : Int) ≤ (Int.tmod (wrap64 ((wrap64 (s0_1 + (1 : Int))) - (1 : Int))) ((s0_0.length : Nat) : Int)))) (brA (decide ((Int.tmod (wrap64 ((wrap64 (s0_1 + (1 : Int))) - (1 : Int))) ((s0_0.length : Nat) : Int)) < ((s0_0.length : Nat) : Int))) (brA (!(decide (((s0_0.length : Nat) : Int) = (0 : Int)))) (brA (decide ((0 : Int) ≤ (Int.tmod (wrap64 ((wrap64 ((wrap64 ((wrap64 (s0_1 + (1 : Int))) - (1 : Int))) * (7 : Int))) + (3 : Int))) ((s0_0.length : Nat) : Int)))) (brA (decide ((Int.tmod (wrap64 ((wrap64 ((wrap64 ((wrap64 (s0_1 + (1 : Int))) - (1 : Int))) * (7 : Int))) + (3 : Int))) ((s0_0.length : Nat) : Int)) < ((s0_0.length : Nat) : Int))) (brA (!(decide (((s0_0.length : Nat) : Int) = (0 : Int)))) (brA (!(decide (a1 = (0 : Int)))) (k (.int .i64 (Int.tmod (Go.bits .xor .i64 (wrap64 ((wrap64 ((wrap64 ((wrap64 ((wrap64 (rd s0_0 (Int.tmod (wrap64 ((wrap64 (s0_1 + (1 : Int))) - (1 : Int))) ((s0_0.length : Nat) : Int)))) * (131 : Int))) + (wrap64 ((wrap64 (rd s0_0 (Int.tmod (wrap64 ((wrap64 ((wrap64 ((wrap64 (s0_1 + (1 : Int))) - (1 : Int))) * (7 : Int))) + (3 : Int))) ((s0_0.length : Nat) : Int)))) * (1117 : Int))))) + (wrap64 ((wrap64 ((wrap64 (s0_1 + (1 : Int))) - (1 : Int))) * (29 : Int))))) + (wrap64 ((wrap64 (Int.tdiv (wrap64 ((wrap64 (s0_1 + (1 : Int))) - (1 : Int))) ((s0_0.length : Nat) : Int))) * (53 : Int))))) (wrap64 (Int.tdiv (wrap64 ((wrap64 ((wrap64 ((wrap64 ((wrap64 (rd s0_0 (Int.tmod (wrap64 ((wrap64 (s0_1 + (1 : Int))) - (1 : Int))) ((s0_0.length : Nat) : Int)))) * (131 : Int))) + (wrap64 ((wrap64 (rd s0_0 (Int.tmod (wrap64 ((wrap64 ((wrap64 ((wrap64 (s0_1 + (1 : Int))) - (1 : Int))) * (7 : Int))) + (3 : Int))) ((s0_0.length : Nat) : Int)))) * (1117 : Int))))) + (wrap64 ((wrap64 ((wrap64 (s0_1 + (1 : Int))) - (1 : Int))) * (29 : Int))))) + (wrap64 ((wrap64 (Int.tdiv (wrap64 ((wrap64 (s0_1 + (1 : Int))) - (1 : Int))) ((s0_0.length : Nat) : Int))) * (53 : Int))))) (64 : Int)))) a1)) ⟨[some (98, [.sl 5 s0_0, .int .i64 (wrap64 (s0_1 + (1 : Int)))])], []⟩) (none)) (none)) (none)) (none)) (none)) (none)) (none)) (none)))) : Option Unit) := by
 simp only [← wrapA_i64]
 kernel_rfl
theorem okc_67 (args : List (AV tau)) (m : Mem tau) (κ : AV tau → Mem tau → Option Unit) (hh : c_67 args m κ = some ()) : ∃ av m1, κ av m1 = some () ∧ ToldA Tryd.prog TT (pnT 67) 67 args m av m1 := by
 obtain ⟨bx_, rw_⟩ := m
 unfold c_67 at hh
 simp only at hh
 split at hh
 case h_2 => cases hh
 rename_i p0 b0 t0_ c0_0 c0_1
 obtain ⟨u12, hx0, hh0⟩ := bO_some hh
 obtain ⟨u13, hx1, hh1⟩ := bO_some hh0
 obtain ⟨s0_0, hx2, hh2⟩ := bO_some hh1
 obtain ⟨s0_1, hx3, hh3⟩ := bO_some hh2
 obtain ⟨a1, hx4, hh4⟩ := bO_some hh3
 have ex0 := asPtr_some hx0
 have ex1 := asT_some hx1
 have ex2 := asSl_some hx2
 have ex3 := asI_some hx3
 have ex4 := asI_some hx4
 subst ex0 ex1 ex2 ex3 ex4
 obtain ⟨N, t, h, hκ⟩ := callX_some hh4
 refine ⟨_, _, hκ, told_of_run pq okC_67 (fun _ _ _ => drawA_ok pq okC_67 hmix) (E := E_67) (fn := Tryd.f67) (body := B_67) (by kernel_rfl) (by kernel_rfl) (by kernel_rfl) (by rfl) (by exact Nat.le_of_ble_eq_true rfl) (fun k hk => ?_)⟩
 refine (w_67 s0_0 s0_1 a1 k).trans ?_
 replace h : spec_l15Rd_pick.f N s0_0 s0_1 a1 = some t := h
 unfold spec_l15Rd_pick.f at h
 refine br_ite h rfl (fun c14 h => ?_) (fun c14 h => ?_)
 ·rcases N with _ | N
  · cases h
  first | rw [spec_l15Rd_pick.j0] at h | simp only [spec_l15Rd_pick.j0] at h | (unfold spec_l15Rd_pick.j0 at h; dsimp only at h)
  replace h := ite_t h (by first | assumption | omega | simp_all)
  cases h; exact hk
 rcases N with _ | N
 · cases h
 first | rw [spec_l15Rd_pick.j0] at h | simp only [spec_l15Rd_pick.j0] at h | (unfold spec_l15Rd_pick.j0 at h; dsimp only at h)
 refine br_ite h (by first | rfl | exact dect | exact (congrArg not dect) | (simp; done) | (simp [beqI]; done) | (simp; omega)) (fun c15 h => ?_) (fun c15 h => ?_)
 ·cases h; exact hk
 refine br_ite h rfl (fun c16 h => ?_) (fun c16 h => ?_)
 ·refine br_g h rfl (fun c17 h => ?_)
  refine br_t (by first | (simp [c16]; done) | (simp; omega) | (simp only [List.length_append, List.length_cons, List.length_nil, List.length_take, List.length_drop] at c16 c15 ⊢; simp; omega) | (simp only [List.length_append, List.length_cons, List.length_nil, List.length_take, List.length_drop] at c16 c15; simp; omega) | (simp_all; done)) ?_
  refine br_nn h rfl (fun c18 h => ?_)
  cases h; exact hk
 refine br_nn h rfl (fun c19 h => ?_)
 refine br_g h rfl (fun c20 h => ?_)
 refine br_g h rfl (fun c21 h => ?_)
 refine br_t (by first | (simp [c19]; done) | (simp; omega) | (simp only [List.length_append, List.length_cons, List.length_nil, List.length_take, List.length_drop] at c21 c20 c19 c16 c15 ⊢; simp; omega) | (simp only [List.length_append, List.length_cons, List.length_nil, List.length_take, List.length_drop] at c21 c20 c19 c16 c15; simp; omega) | (simp_all; done)) ?_
 refine br_g h rfl (fun c22 h => ?_)
 refine br_g h rfl (fun c23 h => ?_)
 refine br_t (by first | (simp [c19]; done) | (simp; omega) | (simp only [List.length_append, List.length_cons, List.length_nil, List.length_take, List.length_drop] at c23 c22 c21 c20 c19 ⊢; simp; omega) | (simp only [List.length_append, List.length_cons, List.length_nil, List.length_take, List.length_drop] at c23 c22 c21 c20 c19; simp; omega) | (simp_all; done)) ?_
 refine br_nn h rfl (fun c24 h => ?_)
 cases h; exact hk
noncomputable def C_85 : Ctr tau Unit := ctrS 67 c_67 C_67
noncomputable def D_85 : Drw tau := drawA E_85 C_85
theorem okC_85 : CtrOk Tryd.prog TT pnT C_85 := ctrS_ok okC_67 okc_67
theorem mC_85 : CtrMono C_85 := ctrS_mono mC_67 mc_67
theorem mD_85 : DrMono D_85 := drawA_mono mC_85
noncomputable def B_85 : Code := Tryd.f85.body.getD .skip
theorem mc_85 (args : List (AV tau)) (m : Mem tau) (k k' : AV tau → Mem tau → Option Unit) (hk : ∀ av m, k av m = some () → k' av m = some ()) (h : c_85 args m k = some ()) : c_85 args m k' = some () := by
 unfold c_85 at h ⊢
 split at h
 · repeat' first | exact callX_mono (fun _ h => hk _ _ h) h | refine bO_mono (fun _ h => ?_) h
 · cases h
theorem w_85 (s0_0 : List Int) (s0_1 : Int) (l1 : List Int) (k : AV tau → Mem tau → Option Unit) : fnA E_85 C_85 D_85 Tryd.f85 B_85 [.ptr 0 0, .own 0 0] ⟨[some (98, [.sl 5 s0_0, .int .i64 s0_1])], [some ⟨3, l1, 0⟩]⟩ k = (callX (fun n => spec_l15Rd_pick.f n s0_0 s0_1 ((l1.length : Nat) : Int)) fun t0 => brA (decide ((0 : Int) ≤ t0.1)) (brA (decide (t0.1 < ((l1.length : Nat) : Int))) (k (.int .i64 (rd l1 t0.1)) ⟨[some (98, [.sl 5 s0_0, .int .i64 t0.2])], [some ⟨3, l1, 0⟩]⟩) (none)) (none) : Option Unit) := by kernel_rfl
theorem okc_85 (args : List (AV tau)) (m : Mem tau) (κ : AV tau → Mem tau → Option Unit) (hh : c_85 args m κ = some ()) : ∃ av m1, κ av m1 = some () ∧ ToldA Tryd.prog TT (pnT 85) 85 args m av m1 := by
 obtain ⟨bx_, rw_⟩ := m
 unfold c_85 at hh
 simp only at hh
 split at hh
 case h_2 => cases hh
 rename_i p0 b0 t0_ c0_0 c0_1 r0
 obtain ⟨u4, hx0, hh0⟩ := bO_some hh
 obtain ⟨u5, hx1, hh1⟩ := bO_some hh0
 obtain ⟨s0_0, hx2, hh2⟩ := bO_some hh1
 obtain ⟨s0_1, hx3, hh3⟩ := bO_some hh2
 obtain ⟨u6, hx4, hh4⟩ := bO_some hh3
 obtain ⟨l1, hx5, hh5⟩ := bO_some hh4
 have ex0 := asPtr_some hx0
 have ex1 := asT_some hx1
 have ex2 := asSl_some hx2
 have ex3 := asI_some hx3
 have ex4 := asOwn_some hx4
 have ex5 := asRow_some hx5
 subst ex0 ex1 ex2 ex3 ex4 ex5
 obtain ⟨N, t, h, hκ⟩ := callX_some hh5
 refine ⟨_, _, hκ, told_of_run pq okC_85 (fun _ _ _ => drawA_ok pq okC_85 hmix) (E := E_85) (fn := Tryd.f85) (body := B_85) (by kernel_rfl) (by kernel_rfl) (by kernel_rfl) (by rfl) (by exact Nat.le_of_ble_eq_true rfl) (fun k hk => ?_)⟩
 refine (w_85 s0_0 s0_1 l1 k).trans ?_
 replace h : spec_l15Rd_num.f N s0_0 s0_1 l1 = some t := h
 unfold spec_l15Rd_num.f at h
 refine call_h N h (fun t0 e7 h => ?_)
 refine br_g h rfl (fun c8 h => ?_)
 refine br_g h rfl (fun c9 h => ?_)
 cases h; exact hk
noncomputable def C_106 : Ctr tau Unit := ctrS 85 c_85 C_85
noncomputable def D_106 : Drw tau := drawA E_106 C_106
theorem okC_106 : CtrOk Tryd.prog TT pnT C_106 := ctrS_ok okC_85 okc_85
theorem mC_106 : CtrMono C_106 := ctrS_mono mC_85 mc_85
theorem mD_106 : DrMono D_106 := drawA_mono mC_106
noncomputable def B_106 : Code := Tryd.f106.body.getD .skip
theorem mc_106 (args : List (AV tau)) (m : Mem tau) (k k' : AV tau → Mem tau → Option Unit) (hk : ∀ av m, k av m = some () → k' av m = some ()) (h : c_106 args m k = some ()) : c_106 args m k' = some () := by
 unfold c_106 at h ⊢
 split at h
 · repeat' first | exact callX_mono (fun _ h => hk _ _ h) h | refine bO_mono (fun _ h => ?_) h
 · cases h
theorem w_106 (s0_0 : List Int) (s0_1 : Int) (k : AV tau → Mem tau → Option Unit) : fnA E_106 C_106 D_106 Tryd.f106 B_106 [.ptr 0 0] ⟨[some (98, [.sl 5 s0_0, .int .i64 s0_1])], []⟩ k = (callX (fun n => spec_l15Rd_num.f n s0_0 s0_1 ([(1 : Int), (1 : Int), (2 : Int), (2 : Int), (3 : Int), (4 : Int), (4 : Int), (5 : Int), (6 : Int), (7 : Int)] : List Int)) fun t0 => callX (fun n => spec_l15Rd_pick.f n s0_0 t0.2 (3 : Int)) fun t1 => callX (fun n => spec_l15Rd_pick.f n s0_0 t1.2 (3 : Int)) fun t2 => brA (decide (t0.1 = (3 : Int))) (callX (fun n => spec_l15Rd_num.f n s0_0 t2.2 ([(0 : Int), (1 : Int), (5 : Int), (-(2 : Int)), (100 : Int), (1000000 : Int)] : List Int)) fun t3 => k (.agg [.int .i64 t0.1, .int .i64 t1.1, .int .i64 (0 : Int), .int .i64 t3.1]) ⟨[some (98, [.sl 5 s0_0, .int .i64 t3.2])], []⟩) (brA (decide (t0.1 = (6 : Int))) (callX (fun n => spec_l15Rd_pick.f n s0_0 t2.2 (3 : Int)) fun t4 => k (.agg [.int .i64 t0.1, .int .i64 t1.1, .int .i64 t2.1, .int .i64 (wrap64 ((1 : Int) + t4.1))]) ⟨[some (98, [.sl 5 s0_0, .int .i64 t4.2])], []⟩) (brA (decide (t0.1 = (7 : Int))) (callX (fun n => spec_l15Rd_pick.f n s0_0 t2.2 (3 : Int)) fun t5 => brA (decide (t5.1 > (0 : Int))) (callX (fun n => spec_l15Rd_pick.f n s0_0 t5.2 (4 : Int)) fun t6 => callX (fun n => spec_l15Rd_pick.f n s0_0 t6.2 (4 : Int)) fun t7 => k (.agg [.int .i64 (4 : Int), .int .i64 t6.1, .int .i64 t7.1, .int .i64 (0 : Int)]) ⟨[some (98, [.sl 5 s0_0, .int .i64 t7.2])], []⟩) (k (.agg [.int .i64 t0.1, .int .i64 (0 : Int), .int .i64 (0 : Int), .int .i64 (0 : Int)]) ⟨[some (98, [.sl 5 s0_0, .int .i64 t5.2])], []⟩)) (k (.agg [.int .i64 t0.1, .int .i64 t1.1, .int .i64 t2.1, .int .i64 (0 : Int)]) ⟨[some (98, [.sl 5 s0_0, .int .i64 t2.2])], []⟩))) : Option Unit) := by
 simp only [← wrapA_i64]
 kernel_rfl
theorem okc_106 (args : List (AV tau)) (m : Mem tau) (κ : AV tau → Mem tau → Option Unit) (hh : c_106 args m κ = some ()) : ∃ av m1, κ av m1 = some () ∧ ToldA Tryd.prog TT (pnT 106) 106 args m av m1 := by
 obtain ⟨bx_, rw_⟩ := m
 unfold c_106 at hh
 simp only at hh
 split at hh
 case h_2 => cases hh
 rename_i p0 t0_ c0_0 c0_1
 obtain ⟨u13, hx0, hh0⟩ := bO_some hh
 obtain ⟨u14, hx1, hh1⟩ := bO_some hh0
 obtain ⟨s0_0, hx2, hh2⟩ := bO_some hh1
 obtain ⟨s0_1, hx3, hh3⟩ := bO_some hh2
 have ex0 := asPtr_some hx0
 have ex1 := asT_some hx1
 have ex2 := asSl_some hx2
 have ex3 := asI_some hx3
 subst ex0 ex1 ex2 ex3
 obtain ⟨N, t, h, hκ⟩ := callX_some hh3
 refine ⟨_, _, hκ, told_of_run pq okC_106 (fun _ _ _ => drawA_ok pq okC_106 hmix) (E := E_106) (fn := Tryd.f106) (body := B_106) (by kernel_rfl) (by kernel_rfl) (by kernel_rfl) (by rfl) (by exact Nat.le_of_ble_eq_true rfl) (fun k hk => ?_)⟩
 refine (w_106 s0_0 s0_1 k).trans ?_
 replace h : spec_l2Any.f N s0_0 s0_1 = some t := h
 unfold spec_l2Any.f at h
 refine call_h N h (fun t0 e15 h => ?_)
 refine call_h N h (fun t1 e16 h => ?_)
 refine call_h N h (fun t2 e17 h => ?_)
 refine br_ite h rfl (fun c18 h => ?_) (fun c18 h => ?_)
 ·refine call_h N h (fun t3 e19 h => ?_)
  cases h; exact hk
 refine br_ite h rfl (fun c20 h => ?_) (fun c20 h => ?_)
 ·refine call_h N h (fun t4 e21 h => ?_)
  cases h; exact hk
 refine br_eti h rfl (fun c22 h => ?_) (fun c22 h => ?_)
 ·cases h; exact hk
 refine call_h N h (fun t5 e23 h => ?_)
 refine br_eti h rfl (fun c24 h => ?_) (fun c24 h => ?_)
 ·cases h; exact hk
 refine call_h N h (fun t6 e25 h => ?_)
 refine call_h N h (fun t7 e26 h => ?_)
 cases h; exact hk
noncomputable def C_92 : Ctr tau Unit := ctrS 106 c_106 C_106
noncomputable def D_92 : Drw tau := drawA E_92 C_92
theorem okC_92 : CtrOk Tryd.prog TT pnT C_92 := ctrS_ok okC_106 okc_106
theorem mC_92 : CtrMono C_92 := ctrS_mono mC_106 mc_106
theorem mD_92 : DrMono D_92 := drawA_mono mC_92
noncomputable def B_92 : Code := Tryd.f92.body.getD .skip
theorem mc_92 (args : List (AV tau)) (m : Mem tau) (k k' : AV tau → Mem tau → Option Unit) (hk : ∀ av m, k av m = some () → k' av m = some ()) (h : c_92 args m k = some ()) : c_92 args m k' = some () := by
 unfold c_92 at h ⊢
 split at h
 · repeat' first | exact callX_mono (fun _ h => hk _ _ h) h | refine bO_mono (fun _ h => ?_) h
 · cases h
noncomputable def K_92_0 (k : AV tau → Mem tau → Option Unit) : Kon tau := (kBlock 0 (kS E_92 C_92 D_92 (codeP B_92 [1, 1, 1, 1]) (kEnd E_92 Tryd.f92 k)))
def st_92_0 (x0 : Int) (x1 : (List Int)) (x2 : Int) (x3 : (List S60)) : St tau := ⟨tmL 37 0 [(0, .ptr 0 0), (5, .own 0 0), (6, .int .i64 x0)], ⟨[some (98, [.sl 5 x1, .int .i64 x2])], [some ⟨60, x3, 0⟩]⟩⟩
noncomputable def LP_92_0 (k : AV tau → Mem tau → Option Unit) (x0 : Int) (x1 : (List Int)) (x2 : Int) (x3 : (List S60)) : Option Unit := loopA E_92 (codeA E_92 C_92 D_92 (codeP B_92 [1, 1, 1, 0, 1, 0, 0])) (codeP B_92 [1, 1, 1, 0, 1, 0, 0]) (K_92_0 k) (st_92_0 x0 x1 x2 x3)
theorem w_92_0 (k : AV tau → Mem tau → Option Unit) (x0 : Int) (x1 : (List Int)) (x2 : Int) (x3 : (List S60)) : codeA E_92 C_92 D_92 (codeP B_92 [1, 1, 1, 0, 1, 0, 0]) (kL E_92 C_92 D_92 (codeP B_92 [1, 1, 1, 0, 1, 0, 0]) (K_92_0 k)) (st_92_0 x0 x1 x2 x3) = (brA (decide (x0 > (0 : Int))) (callX (fun n => spec_l2Any.f n x1 x2) fun t5 => brA (decide ((x3.length + 1) ≤ 4398046511104)) (LP_92_0 k (wrap64 (x0 - (1 : Int))) x1 t5.2.2.2.2 (x3 ++ ([(⟨t5.1, t5.2.1, t5.2.2.1, t5.2.2.2.1⟩ : S60)] : List S60))) (none)) (k (.own 0 0) ⟨[some (98, [.sl 5 x1, .int .i64 x2])], [some ⟨60, x3, 0⟩]⟩) : Option Unit) := by
 simp only [← wrapA_i64]
 kernel_rfl
theorem w_92 (s0_0 : List Int) (s0_1 : Int) (k : AV tau → Mem tau → Option Unit) : fnA E_92 C_92 D_92 Tryd.f92 B_92 [.ptr 0 0] ⟨[some (98, [.sl 5 s0_0, .int .i64 s0_1])], []⟩ k = (callX (fun n => spec_l15Rd_pick.f n s0_0 s0_1 (3 : Int)) fun t0 => brA (decide (t0.1 = (0 : Int))) (callX (fun n => spec_l15Rd_pick.f n s0_0 t0.2 (3 : Int)) fun t1 => callX (fun n => spec_l15Rd_pick.f n s0_0 t1.2 (3 : Int)) fun t2 => callX (fun n => spec_l15Rd_pick.f n s0_0 t2.2 (3 : Int)) fun t3 => k (.own 0 0) ⟨[some (98, [.sl 5 s0_0, .int .i64 t3.2])], [some ⟨60, ([(⟨(1 : Int), (0 : Int), t1.1, (0 : Int)⟩ : S60), (⟨(3 : Int), (1 : Int), (0 : Int), (wrap64 ((1 : Int) + t3.1))⟩ : S60), (⟨(4 : Int), (0 : Int), (1 : Int), (0 : Int)⟩ : S60), (⟨(2 : Int), t2.1, (0 : Int), (0 : Int)⟩ : S60)] : List S60), 0⟩]⟩) (callX (fun n => spec_l15Rd_pick.f n s0_0 t0.2 (8 : Int)) fun t4 => LP_92_0 k t4.1 s0_0 t4.2 ([] : List S60)) : Option Unit) := by
 simp only [← wrapA_i64]
 kernel_rfl
def S_92_0 (N : Nat) : Prop := ∀ (k : AV tau → Mem tau → Option Unit) (x0 : Int) (x1 : (List Int)) (x2 : Int) (x3 : (List S60)) (r : (List (S60)) × Int), spec_l2Prog.l0 N (x3) (x0) (x1) (x2) = some r → k (.own 0 0) ⟨[some (98, [.sl 5 ((x1)), .int .i64 (r.2)])], [some ⟨60, r.1, 0⟩]⟩ = some () → LP_92_0 k x0 x1 x2 x3 = some ()
theorem L_92 (N : Nat) : S_92_0 N := by
 induction N using Nat.strongRecOn with | _ N0 ih =>
 skip
 intro k x0 x1 x2 x3 r h hk
 rcases N0 with _ | N
 · cases h
 first | rw [spec_l2Prog.l0] at h | simp only [spec_l2Prog.l0] at h | (unfold spec_l2Prog.l0 at h; dsimp only at h)
 refine loop_fold mC_92 mD_92 ?_
 refine (w_92_0 k x0 x1 x2 x3).trans ?_
 refine br_eti h rfl (fun c19 h => ?_) (fun c19 h => ?_)
 ·cases h; exact hk
 refine call_h N h (fun t5 e20 h => ?_)
 refine br_g h (by first | rfl | exact dect | exact (congrArg not dect) | (simp; done) | (simp [beqI]; done) | (simp; omega)) (fun c21 h => ?_)
 exact (ih N (by omega)) _ _ _ _ _ _ h hk
theorem okc_92 (args : List (AV tau)) (m : Mem tau) (κ : AV tau → Mem tau → Option Unit) (hh : c_92 args m κ = some ()) : ∃ av m1, κ av m1 = some () ∧ ToldA Tryd.prog TT (pnT 92) 92 args m av m1 := by
 obtain ⟨bx_, rw_⟩ := m
 unfold c_92 at hh
 simp only at hh
 split at hh
 case h_2 => cases hh
 rename_i p0 t0_ c0_0 c0_1
 obtain ⟨u22, hx0, hh0⟩ := bO_some hh
 obtain ⟨u23, hx1, hh1⟩ := bO_some hh0
 obtain ⟨s0_0, hx2, hh2⟩ := bO_some hh1
 obtain ⟨s0_1, hx3, hh3⟩ := bO_some hh2
 have ex0 := asPtr_some hx0
 have ex1 := asT_some hx1
 have ex2 := asSl_some hx2
 have ex3 := asI_some hx3
 subst ex0 ex1 ex2 ex3
 obtain ⟨N, t, h, hκ⟩ := callX_some hh3
 refine ⟨_, _, hκ, told_of_run pq okC_92 (fun _ _ _ => drawA_ok pq okC_92 hmix) (E := E_92) (fn := Tryd.f92) (body := B_92) (by kernel_rfl) (by kernel_rfl) (by kernel_rfl) (by rfl) (by exact Nat.le_of_ble_eq_true rfl) (fun k hk => ?_)⟩
 refine (w_92 s0_0 s0_1 k).trans ?_
 replace h : spec_l2Prog.f N s0_0 s0_1 = some t := h
 unfold spec_l2Prog.f at h
 refine call_h N h (fun t0 e24 h => ?_)
 refine br_eti h rfl (fun c25 h => ?_) (fun c25 h => ?_)
 ·refine call_h N h (fun t4 e26 h => ?_)
  exact (L_92 N) _ _ _ _ _ _ h hk
 refine call_h N h (fun t1 e27 h => ?_)
 refine call_h N h (fun t2 e28 h => ?_)
 refine call_h N h (fun t3 e29 h => ?_)
 cases h; exact hk
noncomputable def C_71 : Ctr tau Unit := ctrS 92 c_92 C_92
noncomputable def D_71 : Drw tau := drawA E_71 C_71
theorem okC_71 : CtrOk Tryd.prog TT pnT C_71 := ctrS_ok okC_92 okc_92
theorem mC_71 : CtrMono C_71 := ctrS_mono mC_92 mc_92
theorem mD_71 : DrMono D_71 := drawA_mono mC_71
noncomputable def B_71 : Code := Tryd.f71.body.getD .skip
theorem mc_71 (args : List (AV tau)) (m : Mem tau) (k k' : AV tau → Mem tau → Option Unit) (hk : ∀ av m, k av m = some () → k' av m = some ()) (h : c_71 args m k = some ()) : c_71 args m k' = some () := by
 unfold c_71 at h ⊢
 split at h
 · repeat' first | exact callX_mono (fun _ h => hk _ _ h) h | refine bO_mono (fun _ h => ?_) h
 · cases h
noncomputable def K_71_0 (k : AV tau → Mem tau → Option Unit) : Kon tau := (kBlock 1 (kBlock 0 (kS E_71 C_71 D_71 (codeP B_71 [1, 1, 1, 1, 1]) (kEnd E_71 Tryd.f71 k))))
def st_71_0 (x0 : Int) (x1 : (List Int)) (x2 : Int) (x3 : (List S60)) : St tau := ⟨tmL 57 0 [(3, .own 0 0), (4, .int .i64 x0)], ⟨[some (98, [.sl 5 x1, .int .i64 x2])], [some ⟨60, x3, 0⟩]⟩⟩
noncomputable def LP_71_0 (k : AV tau → Mem tau → Option Unit) (x0 : Int) (x1 : (List Int)) (x2 : Int) (x3 : (List S60)) : Option Unit := loopA E_71 (codeA E_71 C_71 D_71 (codeP B_71 [1, 1, 1, 1, 0, 1, 0, 1, 1, 1, 1, 1, 1, 1, 0, 0, 0])) (codeP B_71 [1, 1, 1, 1, 0, 1, 0, 1, 1, 1, 1, 1, 1, 1, 0, 0, 0]) (K_71_0 k) (st_71_0 x0 x1 x2 x3)
theorem w_71_0 (k : AV tau → Mem tau → Option Unit) (x0 : Int) (x1 : (List Int)) (x2 : Int) (x3 : (List S60)) : codeA E_71 C_71 D_71 (codeP B_71 [1, 1, 1, 1, 0, 1, 0, 1, 1, 1, 1, 1, 1, 1, 0, 0, 0]) (kL E_71 C_71 D_71 (codeP B_71 [1, 1, 1, 1, 0, 1, 0, 1, 1, 1, 1, 1, 1, 1, 0, 0, 0]) (K_71_0 k)) (st_71_0 x0 x1 x2 x3) = (brA (decide (((x3.length : Nat) : Int) < (11 : Int))) (brA (decide ((0 : Int) ≤ x0)) (brA (decide (x0 < ((x3.length : Nat) : Int))) (brA (decide ((x3.length + 1) ≤ 4398046511104)) (LP_71_0 k x0 x1 x2 (x3 ++ ([(⟨(rd_T60 x3 x0).f0, (rd_T60 x3 x0).f1, (rd_T60 x3 x0).f2, (rd_T60 x3 x0).f3⟩ : S60)] : List S60))) (none)) (none)) (none)) (k (.own 0 0) ⟨[some (98, [.sl 5 x1, .int .i64 x2])], [some ⟨60, x3, 0⟩]⟩) : Option Unit) := by kernel_rfl
theorem w_71 (s0_0 : List Int) (s0_1 : Int) (k : AV tau → Mem tau → Option Unit) : fnA E_71 C_71 D_71 Tryd.f71 B_71 [.ptr 0 0] ⟨[some (98, [.sl 5 s0_0, .int .i64 s0_1])], []⟩ k = (callX (fun n => spec_l2Prog.f n s0_0 s0_1) fun t0 => brA (decide (((t0.1.length : Nat) : Int) = (0 : Int))) (k (.own 0 0) ⟨[some (98, [.sl 5 s0_0, .int .i64 t0.2])], [some ⟨60, t0.1, 0⟩]⟩) (callX (fun n => spec_l15Rd_pick.f n s0_0 t0.2 ((t0.1.length : Nat) : Int)) fun t1 => callX (fun n => spec_l15Rd_pick.f n s0_0 t1.2 (40 : Int)) fun t2 => brA (decide (t2.1 = (0 : Int))) (callX (fun n => spec_l15Rd_num.f n s0_0 t2.2 ([(0 : Int), (8 : Int)] : List Int)) fun t3 => brA (decide ((0 : Int) ≤ t1.1)) (brA (decide (t1.1 < ((t0.1.length : Nat) : Int))) (k (.own 0 0) ⟨[some (98, [.sl 5 s0_0, .int .i64 t3.2])], [some ⟨60, (List.set t0.1 (Int.toNat t1.1) (⟨t3.1, (rd_T60 t0.1 t1.1).f1, (rd_T60 t0.1 t1.1).f2, (rd_T60 t0.1 t1.1).f3⟩ : S60)), 0⟩]⟩) (none)) (none)) (brA (decide (t2.1 = (1 : Int))) (callX (fun n => spec_l15Rd_num.f n s0_0 t2.2 ([(-(1 : Int)), (4 : Int)] : List Int)) fun t4 => brA (decide ((0 : Int) ≤ t1.1)) (brA (decide (t1.1 < ((t0.1.length : Nat) : Int))) (k (.own 0 0) ⟨[some (98, [.sl 5 s0_0, .int .i64 t4.2])], [some ⟨60, (List.set t0.1 (Int.toNat t1.1) (⟨(rd_T60 t0.1 t1.1).f0, t4.1, (rd_T60 t0.1 t1.1).f2, (rd_T60 t0.1 t1.1).f3⟩ : S60)), 0⟩]⟩) (none)) (none)) (brA (decide (t2.1 = (2 : Int))) (callX (fun n => spec_l15Rd_num.f n s0_0 t2.2 ([(-(1 : Int)), (11 : Int), (2000000 : Int)] : List Int)) fun t5 => brA (decide ((0 : Int) ≤ t1.1)) (brA (decide (t1.1 < ((t0.1.length : Nat) : Int))) (k (.own 0 0) ⟨[some (98, [.sl 5 s0_0, .int .i64 t5.2])], [some ⟨60, (List.set t0.1 (Int.toNat t1.1) (⟨(rd_T60 t0.1 t1.1).f0, (rd_T60 t0.1 t1.1).f1, (rd_T60 t0.1 t1.1).f2, t5.1⟩ : S60)), 0⟩]⟩) (none)) (none)) (brA (decide (t2.1 = (3 : Int))) (LP_71_0 k t1.1 s0_0 t2.2 t0.1) (k (.own 0 0) ⟨[some (98, [.sl 5 s0_0, .int .i64 t2.2])], [some ⟨60, t0.1, 0⟩]⟩))))) : Option Unit) := by kernel_rfl
def S_71_0 (N : Nat) : Prop := ∀ (k : AV tau → Mem tau → Option Unit) (x0 : Int) (x1 : (List Int)) (x2 : Int) (x3 : (List S60)) (r : (List (S60)) × Int), spec_l2Bent.l0 N (x3) (x0) (x1) (x2) = some r → k (.own 0 0) ⟨[some (98, [.sl 5 ((x1)), .int .i64 (r.2)])], [some ⟨60, r.1, 0⟩]⟩ = some () → LP_71_0 k x0 x1 x2 x3 = some ()
theorem L_71 (N : Nat) : S_71_0 N := by
 induction N using Nat.strongRecOn with | _ N0 ih =>
 skip
 intro k x0 x1 x2 x3 r h hk
 rcases N0 with _ | N
 · cases h
 first | rw [spec_l2Bent.l0] at h | simp only [spec_l2Bent.l0] at h | (unfold spec_l2Bent.l0 at h; dsimp only at h)
 refine loop_fold mC_71 mD_71 ?_
 refine (w_71_0 k x0 x1 x2 x3).trans ?_
 refine br_eti h rfl (fun c43 h => ?_) (fun c43 h => ?_)
 ·cases h; exact hk
 refine br_g h rfl (fun c44 h => ?_)
 refine br_g h rfl (fun c45 h => ?_)
 refine br_g h (by first | rfl | exact dect | exact (congrArg not dect) | (simp; done) | (simp [beqI]; done) | (simp; omega)) (fun c46 h => ?_)
 exact (ih N (by omega)) _ _ _ _ _ _ h hk
theorem okc_71 (args : List (AV tau)) (m : Mem tau) (κ : AV tau → Mem tau → Option Unit) (hh : c_71 args m κ = some ()) : ∃ av m1, κ av m1 = some () ∧ ToldA Tryd.prog TT (pnT 71) 71 args m av m1 := by
 obtain ⟨bx_, rw_⟩ := m
 unfold c_71 at hh
 simp only at hh
 split at hh
 case h_2 => cases hh
 rename_i p0 t0_ c0_0 c0_1
 obtain ⟨u47, hx0, hh0⟩ := bO_some hh
 obtain ⟨u48, hx1, hh1⟩ := bO_some hh0
 obtain ⟨s0_0, hx2, hh2⟩ := bO_some hh1
 obtain ⟨s0_1, hx3, hh3⟩ := bO_some hh2
 have ex0 := asPtr_some hx0
 have ex1 := asT_some hx1
 have ex2 := asSl_some hx2
 have ex3 := asI_some hx3
 subst ex0 ex1 ex2 ex3
 obtain ⟨N, t, h, hκ⟩ := callX_some hh3
 refine ⟨_, _, hκ, told_of_run pq okC_71 (fun _ _ _ => drawA_ok pq okC_71 hmix) (E := E_71) (fn := Tryd.f71) (body := B_71) (by kernel_rfl) (by kernel_rfl) (by kernel_rfl) (by rfl) (by exact Nat.le_of_ble_eq_true rfl) (fun k hk => ?_)⟩
 refine (w_71 s0_0 s0_1 k).trans ?_
 replace h : spec_l2Bent.f N s0_0 s0_1 = some t := h
 unfold spec_l2Bent.f at h
 refine call_h N h (fun t0 e49 h => ?_)
 refine br_ite h rfl (fun c50 h => ?_) (fun c50 h => ?_)
 ·cases h; exact hk
 refine call_h N h (fun t1 e51 h => ?_)
 refine call_h N h (fun t2 e52 h => ?_)
 refine br_ite h rfl (fun c53 h => ?_) (fun c53 h => ?_)
 ·refine call_h N h (fun t3 e54 h => ?_)
  refine br_g h rfl (fun c55 h => ?_)
  refine br_g h rfl (fun c56 h => ?_)
  cases h; exact hk
 refine br_ite h rfl (fun c57 h => ?_) (fun c57 h => ?_)
 ·refine call_h N h (fun t4 e58 h => ?_)
  refine br_g h rfl (fun c59 h => ?_)
  refine br_g h rfl (fun c60 h => ?_)
  cases h; exact hk
 refine br_eti h rfl (fun c61 h => ?_) (fun c61 h => ?_)
 ·refine br_ite h rfl (fun c62 h => ?_) (fun c62 h => ?_)
  ·exact (L_71 N) _ _ _ _ _ _ h hk
  cases h; exact hk
 refine call_h N h (fun t5 e63 h => ?_)
 refine br_g h rfl (fun c64 h => ?_)
 refine br_g h rfl (fun c65 h => ?_)
 cases h; exact hk
noncomputable def C_46 : Ctr tau Unit := ctrS 71 c_71 C_71
noncomputable def D_46 : Drw tau := drawA E_46 C_46
theorem okC_46 : CtrOk Tryd.prog TT pnT C_46 := ctrS_ok okC_71 okc_71
theorem mC_46 : CtrMono C_46 := ctrS_mono mC_71 mc_71
theorem mD_46 : DrMono D_46 := drawA_mono mC_46
noncomputable def B_46 : Code := Tryd.f46.body.getD .skip
theorem mc_46 (args : List (AV tau)) (m : Mem tau) (k k' : AV tau → Mem tau → Option Unit) (hk : ∀ av m, k av m = some () → k' av m = some ()) (h : c_46 args m k = some ()) : c_46 args m k' = some () := by
 unfold c_46 at h ⊢
 split at h
 · repeat' first | exact callX_mono (fun _ h => hk _ _ h) h | refine bO_mono (fun _ h => ?_) h
 · cases h
theorem w_46 (l0 : List Int) (k : AV tau → Mem tau → Option Unit) : fnA E_46 C_46 D_46 Tryd.f46 B_46 [.sl 5 l0] ⟨[], []⟩ k = (callX (fun n => spec_l15Open.f l0) fun t0 => callX (fun n => spec_l2Bent.f n t0.1 t0.2) fun t1 => k (.own 0 0) ⟨[], [some ⟨60, t1.1, 0⟩]⟩ : Option Unit) := by kernel_rfl
theorem okc_46 (args : List (AV tau)) (m : Mem tau) (κ : AV tau → Mem tau → Option Unit) (hh : c_46 args m κ = some ()) : ∃ av m1, κ av m1 = some () ∧ ToldA Tryd.prog TT (pnT 46) 46 args m av m1 := by
 obtain ⟨bx_, rw_⟩ := m
 unfold c_46 at hh
 simp only at hh
 split at hh
 case h_2 => cases hh
 rename_i b0
 obtain ⟨l0, hx0, hh0⟩ := bO_some hh
 have ex0 := asSl_some hx0
 subst ex0
 obtain ⟨N, t, h, hκ⟩ := callX_some hh0
 refine ⟨_, _, hκ, told_of_run pq okC_46 (fun _ _ _ => drawA_ok pq okC_46 hmix) (E := E_46) (fn := Tryd.f46) (body := B_46) (by kernel_rfl) (by kernel_rfl) (by kernel_rfl) (by rfl) (by exact Nat.le_of_ble_eq_true rfl) (fun k hk => ?_)⟩
 refine (w_46 l0 k).trans ?_
 replace h : spec_DrawProgLoads.f N l0 = some t := h
 unfold spec_DrawProgLoads.f at h
 refine call_h 0 h (fun t0 e3 h => ?_)
 refine call_h N h (fun t1 e4 h => ?_)
 cases h; exact hk
noncomputable def C_47 : Ctr tau Unit := ctrS 46 c_46 C_46
noncomputable def D_47 : Drw tau := drawA E_47 C_47
theorem okC_47 : CtrOk Tryd.prog TT pnT C_47 := ctrS_ok okC_46 okc_46
theorem mC_47 : CtrMono C_47 := ctrS_mono mC_46 mc_46
theorem mD_47 : DrMono D_47 := drawA_mono mC_47
noncomputable def B_47 : Code := Tryd.f47.body.getD .skip
theorem mc_47 (args : List (AV tau)) (m : Mem tau) (k k' : AV tau → Mem tau → Option Unit) (hk : ∀ av m, k av m = some () → k' av m = some ()) (h : c_47 args m k = some ()) : c_47 args m k' = some () := by
 unfold c_47 at h ⊢
 split at h
 · repeat' first | exact callX_mono (fun _ h => hk _ _ h) h | refine bO_mono (fun _ h => ?_) h
 · cases h
noncomputable def K_47_0 (k : AV tau → Mem tau → Option Unit) : Kon tau := (kBlock 0 (kS E_47 C_47 D_47 (codeP B_47 [1, 1, 1]) (kEnd E_47 Tryd.f47 k)))
def st_47_0 (x0 : (List S60)) (x1 : (List S60)) (x2 : Int) : St tau := ⟨tmL 26 0 [(0, .sl 60 x0), (1, .sl 60 x1), (5, .int .i64 x2)], ⟨[], []⟩⟩
noncomputable def LP_47_0 (k : AV tau → Mem tau → Option Unit) (x0 : (List S60)) (x1 : (List S60)) (x2 : Int) : Option Unit := loopA E_47 (codeA E_47 C_47 D_47 (codeP B_47 [1, 1, 0, 1, 0, 0])) (codeP B_47 [1, 1, 0, 1, 0, 0]) (K_47_0 k) (st_47_0 x0 x1 x2)
theorem w_47_0 (k : AV tau → Mem tau → Option Unit) (x0 : (List S60)) (x1 : (List S60)) (x2 : Int) : codeA E_47 C_47 D_47 (codeP B_47 [1, 1, 0, 1, 0, 0]) (kL E_47 C_47 D_47 (codeP B_47 [1, 1, 0, 1, 0, 0]) (K_47_0 k)) (st_47_0 x0 x1 x2) = (brA (decide (x2 < ((x0.length : Nat) : Int))) (brA (decide ((0 : Int) ≤ x2)) (brA (decide (x2 < ((x0.length : Nat) : Int))) (brA (decide ((0 : Int) ≤ x2)) (brA (decide (x2 < ((x1.length : Nat) : Int))) (brA (!(((rd_T60 x0 x2).f0 == (rd_T60 x1 x2).f0) && (((rd_T60 x0 x2).f1 == (rd_T60 x1 x2).f1) && (((rd_T60 x0 x2).f2 == (rd_T60 x1 x2).f2) && ((rd_T60 x0 x2).f3 == (rd_T60 x1 x2).f3))))) (k (.bool false) ⟨[], []⟩) (LP_47_0 k x0 x1 (wrap64 (x2 + (1 : Int))))) (none)) (none)) (none)) (none)) (k (.bool true) ⟨[], []⟩) : Option Unit) := by
 simp only [← wrapA_i64]
 kernel_rfl
theorem w_47 (l0 : List S60) (l1 : List S60) (k : AV tau → Mem tau → Option Unit) : fnA E_47 C_47 D_47 Tryd.f47 B_47 [.sl 60 l0, .sl 60 l1] ⟨[], []⟩ k = (brA (!(decide (((l0.length : Nat) : Int) = ((l1.length : Nat) : Int)))) (k (.bool false) ⟨[], []⟩) (LP_47_0 k l0 l1 (0 : Int)) : Option Unit) := by kernel_rfl
def S_47_0 (N : Nat) : Prop := ∀ (k : AV tau → Mem tau → Option Unit) (x0 : (List S60)) (x1 : (List S60)) (x2 : Int) (r : Bool), spec_ProgSame.l0 N (x0) (x1) (x2) = some r → k (.bool (r)) ⟨[], []⟩ = some () → LP_47_0 k x0 x1 x2 = some ()
theorem L_47 (N : Nat) : S_47_0 N := by
 induction N using Nat.strongRecOn with | _ N0 ih =>
 skip
 intro k x0 x1 x2 r h hk
 rcases N0 with _ | N
 · cases h
 first | rw [spec_ProgSame.l0] at h | simp only [spec_ProgSame.l0] at h | (unfold spec_ProgSame.l0 at h; dsimp only at h)
 refine loop_fold mC_47 mD_47 ?_
 refine (w_47_0 k x0 x1 x2).trans ?_
 refine br_eti h rfl (fun c11 h => ?_) (fun c11 h => ?_)
 ·cases h; exact hk
 refine br_g h rfl (fun c12 h => ?_)
 refine br_t (by first | (simp [c11]; done) | (simp; omega) | (simp only [List.length_append, List.length_cons, List.length_nil, List.length_take, List.length_drop] at c11 ⊢; simp; omega) | (simp only [List.length_append, List.length_cons, List.length_nil, List.length_take, List.length_drop] at c11; simp; omega) | (simp_all; done)) ?_
 refine br_t (by first | (simp [c12]; done) | (simp; omega) | (simp only [List.length_append, List.length_cons, List.length_nil, List.length_take, List.length_drop] at c11 ⊢; simp; omega) | (simp only [List.length_append, List.length_cons, List.length_nil, List.length_take, List.length_drop] at c11; simp; omega) | (simp_all; done)) ?_
 refine br_g h rfl (fun c13 h => ?_)
 refine br_ite h (by first | rfl | exact dect | exact (congrArg not dect) | (simp; done) | (simp [beqI]; done) | (simp; omega)) (fun c14 h => ?_) (fun c14 h => ?_)
 ·cases h; exact hk
 exact (ih N (by omega)) _ _ _ _ _ h hk
theorem okc_47 (args : List (AV tau)) (m : Mem tau) (κ : AV tau → Mem tau → Option Unit) (hh : c_47 args m κ = some ()) : ∃ av m1, κ av m1 = some () ∧ ToldA Tryd.prog TT (pnT 47) 47 args m av m1 := by
 obtain ⟨bx_, rw_⟩ := m
 unfold c_47 at hh
 simp only at hh
 split at hh
 case h_2 => cases hh
 rename_i b0 b1
 obtain ⟨l0, hx0, hh0⟩ := bO_some hh
 obtain ⟨l1, hx1, hh1⟩ := bO_some hh0
 have ex0 := asSl_some hx0
 have ex1 := asSl_some hx1
 subst ex0 ex1
 obtain ⟨N, t, h, hκ⟩ := callX_some hh1
 refine ⟨_, _, hκ, told_of_run pq okC_47 (fun _ _ _ => drawA_ok pq okC_47 hmix) (E := E_47) (fn := Tryd.f47) (body := B_47) (by kernel_rfl) (by kernel_rfl) (by kernel_rfl) (by rfl) (by exact Nat.le_of_ble_eq_true rfl) (fun k hk => ?_)⟩
 refine (w_47 l0 l1 k).trans ?_
 replace h : spec_ProgSame.f N l0 l1 = some t := h
 unfold spec_ProgSame.f at h
 refine br_etn h rfl (fun c15 h => ?_) (fun c15 h => ?_)
 ·cases h; exact hk
 exact (L_47 N) _ _ _ _ _ h hk
noncomputable def C_45 : Ctr tau Unit := ctrS 47 c_47 C_47
noncomputable def D_45 : Drw tau := drawA E_45 C_45
theorem okC_45 : CtrOk Tryd.prog TT pnT C_45 := ctrS_ok okC_47 okc_47
theorem mC_45 : CtrMono C_45 := ctrS_mono mC_47 mc_47
theorem mD_45 : DrMono D_45 := drawA_mono mC_45
noncomputable def B_45 : Code := Tryd.f45.body.getD .skip
theorem mc_45 (args : List (AV tau)) (m : Mem tau) (k k' : AV tau → Mem tau → Option Unit) (hk : ∀ av m, k av m = some () → k' av m = some ()) (h : c_45 args m k = some ()) : c_45 args m k' = some () := by
 unfold c_45 at h ⊢
 split at h
 · repeat' first | exact callX_mono (fun _ h => hk _ _ h) h | refine bO_mono (fun _ h => ?_) h
 · cases h
theorem w_45 (l0 : List Int) (k : AV tau → Mem tau → Option Unit) : fnA E_45 C_45 D_45 Tryd.f45 B_45 [.sl 5 l0] ⟨[], []⟩ k = (callX (fun n => spec_l15Open.f l0) fun t0 => callX (fun n => spec_l2Bent.f n t0.1 t0.2) fun t1 => callX (fun n => spec_l15Open.f l0) fun t2 => callX (fun n => spec_l2Bent.f n t2.1 t2.2) fun t3 => brA (decide (((l0.length : Nat) : Int) > (0 : Int))) (brA (decide ((0 : Int) < ((l0.length : Nat) : Int))) (brA (decide ((Int.tmod (rd l0 (0 : Int)) (2 : Int)) = (1 : Int))) (brA (decide ((t3.1.length + 1) ≤ 4398046511104)) (k (.tup [.own 0 0, .own 1 0]) ⟨[], [some ⟨60, t1.1, 0⟩, some ⟨60, (t3.1 ++ ([(⟨(7 : Int), (0 : Int), (0 : Int), (0 : Int)⟩ : S60)] : List S60)), 0⟩]⟩) (none)) (k (.tup [.own 0 0, .own 1 0]) ⟨[], [some ⟨60, t1.1, 0⟩, some ⟨60, t3.1, 0⟩]⟩)) (none)) (k (.tup [.own 0 0, .own 1 0]) ⟨[], [some ⟨60, t1.1, 0⟩, some ⟨60, t3.1, 0⟩]⟩) : Option Unit) := by kernel_rfl
theorem okc_45 (args : List (AV tau)) (m : Mem tau) (κ : AV tau → Mem tau → Option Unit) (hh : c_45 args m κ = some ()) : ∃ av m1, κ av m1 = some () ∧ ToldA Tryd.prog TT (pnT 45) 45 args m av m1 := by
 obtain ⟨bx_, rw_⟩ := m
 unfold c_45 at hh
 simp only at hh
 split at hh
 case h_2 => cases hh
 rename_i b0
 obtain ⟨l0, hx0, hh0⟩ := bO_some hh
 have ex0 := asSl_some hx0
 subst ex0
 obtain ⟨N, t, h, hκ⟩ := callX_some hh0
 refine ⟨_, _, hκ, told_of_run pq okC_45 (fun _ _ _ => drawA_ok pq okC_45 hmix) (E := E_45) (fn := Tryd.f45) (body := B_45) (by kernel_rfl) (by kernel_rfl) (by kernel_rfl) (by rfl) (by exact Nat.le_of_ble_eq_true rfl) (fun k hk => ?_)⟩
 refine (w_45 l0 k).trans ?_
 replace h : spec_DrawProgSame.f N l0 = some t := h
 unfold spec_DrawProgSame.f at h
 refine call_h 0 h (fun t0 e9 h => ?_)
 refine call_h N h (fun t1 e10 h => ?_)
 refine call_h 0 h (fun t2 e11 h => ?_)
 refine call_h N h (fun t3 e12 h => ?_)
 refine br_eti h rfl (fun c13 h => ?_) (fun c13 h => ?_)
 ·cases h; exact hk
 refine br_g h rfl (fun c14 h => ?_)
 refine br_eti h rfl (fun c15 h => ?_) (fun c15 h => ?_)
 ·cases h; exact hk
 refine br_g h rfl (fun c16 h => ?_)
 cases h; exact hk
noncomputable def C_72 : Ctr tau Unit := ctrS 45 c_45 C_45
noncomputable def D_72 : Drw tau := drawA E_72 C_72
theorem okC_72 : CtrOk Tryd.prog TT pnT C_72 := ctrS_ok okC_45 okc_45
theorem mC_72 : CtrMono C_72 := ctrS_mono mC_45 mc_45
theorem mD_72 : DrMono D_72 := drawA_mono mC_72
noncomputable def B_72 : Code := Tryd.f72.body.getD .skip
theorem mc_72 (args : List (AV tau)) (m : Mem tau) (k k' : AV tau → Mem tau → Option Unit) (hk : ∀ av m, k av m = some () → k' av m = some ()) (h : c_72 args m k = some ()) : c_72 args m k' = some () := by
 unfold c_72 at h ⊢
 split at h
 · repeat' first | exact callX_mono (fun _ h => hk _ _ h) h | refine bO_mono (fun _ h => ?_) h
 · cases h
theorem w_72 (a0_0 : Int) (a0_1 : Int) (a0_2 : Int) (a0_3 : Int) (k : AV tau → Mem tau → Option Unit) : fnA E_72 C_72 D_72 Tryd.f72 B_72 [.agg [.int .i64 a0_0, .int .i64 a0_1, .int .i64 a0_2, .int .i64 a0_3]] ⟨[], []⟩ k = (callX (fun n => strconv_Itoa.f n a0_1) fun t0 => brA (decide ((1 + t0.size) ≤ 9223372036854775807)) (callX (fun n => strconv_Itoa.f n a0_2) fun t1 => brA (decide ((1 + t1.size) ≤ 9223372036854775807)) (callX (fun n => strconv_Itoa.f n a0_3) fun t2 => brA (decide ((1 + t2.size) ≤ 9223372036854775807)) (brA (decide (a0_0 = (1 : Int))) (brA (decide ((4 + ((bs [32]) ++ t0).size) ≤ 9223372036854775807)) (brA (decide ((((bs [108, 111, 97, 100]) ++ ((bs [32]) ++ t0)).size + ((bs [32]) ++ t1).size) ≤ 9223372036854775807)) (k (.str (((bs [108, 111, 97, 100]) ++ ((bs [32]) ++ t0)) ++ ((bs [32]) ++ t1))) ⟨[], []⟩) (none)) (none)) (brA (decide (a0_0 = (2 : Int))) (brA (decide ((3 + ((bs [32]) ++ t0).size) ≤ 9223372036854775807)) (brA (decide ((((bs [112, 117, 116]) ++ ((bs [32]) ++ t0)).size + ((bs [32]) ++ t1).size) ≤ 9223372036854775807)) (k (.str (((bs [112, 117, 116]) ++ ((bs [32]) ++ t0)) ++ ((bs [32]) ++ t1))) ⟨[], []⟩) (none)) (none)) (brA (decide (a0_0 = (3 : Int))) (brA (decide ((3 + ((bs [32]) ++ t0).size) ≤ 9223372036854775807)) (brA (decide ((((bs [110, 117, 109]) ++ ((bs [32]) ++ t0)).size + ((bs [32]) ++ t2).size) ≤ 9223372036854775807)) (k (.str (((bs [110, 117, 109]) ++ ((bs [32]) ++ t0)) ++ ((bs [32]) ++ t2))) ⟨[], []⟩) (none)) (none)) (brA (decide (a0_0 = (4 : Int))) (brA (decide ((3 + ((bs [32]) ++ t0).size) ≤ 9223372036854775807)) (brA (decide ((((bs [97, 100, 100]) ++ ((bs [32]) ++ t0)).size + ((bs [32]) ++ t1).size) ≤ 9223372036854775807)) (k (.str (((bs [97, 100, 100]) ++ ((bs [32]) ++ t0)) ++ ((bs [32]) ++ t1))) ⟨[], []⟩) (none)) (none)) (brA (decide (a0_0 = (5 : Int))) (brA (decide ((3 + ((bs [32]) ++ t0).size) ≤ 9223372036854775807)) (brA (decide ((((bs [115, 117, 98]) ++ ((bs [32]) ++ t0)).size + ((bs [32]) ++ t1).size) ≤ 9223372036854775807)) (k (.str (((bs [115, 117, 98]) ++ ((bs [32]) ++ t0)) ++ ((bs [32]) ++ t1))) ⟨[], []⟩) (none)) (none)) (brA (decide (a0_0 = (6 : Int))) (brA (decide ((4 + ((bs [32]) ++ t0).size) ≤ 9223372036854775807)) (brA (decide ((((bs [108, 101, 115, 115]) ++ ((bs [32]) ++ t0)).size + ((bs [32]) ++ t1).size) ≤ 9223372036854775807)) (brA (decide (((((bs [108, 101, 115, 115]) ++ ((bs [32]) ++ t0)) ++ ((bs [32]) ++ t1)).size + ((bs [32]) ++ t2).size) ≤ 9223372036854775807)) (k (.str ((((bs [108, 101, 115, 115]) ++ ((bs [32]) ++ t0)) ++ ((bs [32]) ++ t1)) ++ ((bs [32]) ++ t2))) ⟨[], []⟩) (none)) (none)) (none)) (brA (decide (a0_0 = (7 : Int))) (k (.str (bs [102, 97, 105, 108])) ⟨[], []⟩) (k (.str (bs [110, 111, 110, 101])) ⟨[], []⟩)))))))) (none)) (none)) (none) : Option Unit) := by kernel_rfl
theorem okc_72 (args : List (AV tau)) (m : Mem tau) (κ : AV tau → Mem tau → Option Unit) (hh : c_72 args m κ = some ()) : ∃ av m1, κ av m1 = some () ∧ ToldA Tryd.prog TT (pnT 72) 72 args m av m1 := by
 obtain ⟨bx_, rw_⟩ := m
 unfold c_72 at hh
 simp only at hh
 split at hh
 case h_2 => cases hh
 rename_i b0 b1 b2 b3
 obtain ⟨a0_0, hx0, hh0⟩ := bO_some hh
 obtain ⟨a0_1, hx1, hh1⟩ := bO_some hh0
 obtain ⟨a0_2, hx2, hh2⟩ := bO_some hh1
 obtain ⟨a0_3, hx3, hh3⟩ := bO_some hh2
 have ex0 := asI_some hx0
 have ex1 := asI_some hx1
 have ex2 := asI_some hx2
 have ex3 := asI_some hx3
 subst ex0 ex1 ex2 ex3
 obtain ⟨N, t, h, hκ⟩ := callX_some hh3
 refine ⟨_, _, hκ, told_of_run pq okC_72 (fun _ _ _ => drawA_ok pq okC_72 hmix) (E := E_72) (fn := Tryd.f72) (body := B_72) (by kernel_rfl) (by kernel_rfl) (by kernel_rfl) (by rfl) (by exact Nat.le_of_ble_eq_true rfl) (fun k hk => ?_)⟩
 refine (w_72 a0_0 a0_1 a0_2 a0_3 k).trans ?_
 replace h : impl_insText.f N a0_0 a0_1 a0_2 a0_3 = some t := h
 unfold impl_insText.f at h
 refine call_h N h (fun t0 e27 h => ?_)
 refine br_g h rfl (fun c28 h => ?_)
 refine call_h N h (fun t1 e29 h => ?_)
 refine br_g h rfl (fun c30 h => ?_)
 refine call_h N h (fun t2 e31 h => ?_)
 refine br_g h rfl (fun c32 h => ?_)
 refine br_ite h rfl (fun c33 h => ?_) (fun c33 h => ?_)
 ·refine br_g h rfl (fun c34 h => ?_)
  refine br_g h rfl (fun c35 h => ?_)
  cases h; exact hk
 refine br_ite h rfl (fun c36 h => ?_) (fun c36 h => ?_)
 ·refine br_g h rfl (fun c37 h => ?_)
  refine br_g h rfl (fun c38 h => ?_)
  cases h; exact hk
 refine br_ite h rfl (fun c39 h => ?_) (fun c39 h => ?_)
 ·refine br_g h rfl (fun c40 h => ?_)
  refine br_g h rfl (fun c41 h => ?_)
  cases h; exact hk
 refine br_ite h rfl (fun c42 h => ?_) (fun c42 h => ?_)
 ·refine br_g h rfl (fun c43 h => ?_)
  refine br_g h rfl (fun c44 h => ?_)
  cases h; exact hk
 refine br_ite h rfl (fun c45 h => ?_) (fun c45 h => ?_)
 ·refine br_g h rfl (fun c46 h => ?_)
  refine br_g h rfl (fun c47 h => ?_)
  cases h; exact hk
 refine br_eti h rfl (fun c48 h => ?_) (fun c48 h => ?_)
 ·refine br_ite h rfl (fun c49 h => ?_) (fun c49 h => ?_)
  ·cases h; exact hk
  cases h; exact hk
 refine br_g h rfl (fun c50 h => ?_)
 refine br_g h rfl (fun c51 h => ?_)
 refine br_g h rfl (fun c52 h => ?_)
 cases h; exact hk
noncomputable def C_27 : Ctr tau Unit := ctrS 72 c_72 C_72
noncomputable def D_27 : Drw tau := drawA E_27 C_27
theorem okC_27 : CtrOk Tryd.prog TT pnT C_27 := ctrS_ok okC_72 okc_72
theorem mC_27 : CtrMono C_27 := ctrS_mono mC_72 mc_72
theorem mD_27 : DrMono D_27 := drawA_mono mC_27
noncomputable def B_27 : Code := Tryd.f27.body.getD .skip
theorem mc_27 (args : List (AV tau)) (m : Mem tau) (k k' : AV tau → Mem tau → Option Unit) (hk : ∀ av m, k av m = some () → k' av m = some ()) (h : c_27 args m k = some ()) : c_27 args m k' = some () := by
 unfold c_27 at h ⊢
 split at h
 · repeat' first | exact callX_mono (fun _ h => hk _ _ h) h | refine bO_mono (fun _ h => ?_) h
 · cases h
noncomputable def K_27_0 (k : AV tau → Mem tau → Option Unit) : Kon tau := (kBlock 0 (kS E_27 C_27 D_27 (codeP B_27 [1, 1, 1]) (kEnd E_27 Tryd.f27 k)))
def st_27_0 (x0 : (List S60)) (x1 : Int) (x2 : Int) (x3 : (List ByteArray)) : St tau := ⟨tmL 20 0 [(3, .own 0 0), (6, .sl 60 x0), (7, .int .i64 x1), (8, .int .i64 x2)], ⟨[], [some ⟨9, x3, 0⟩]⟩⟩
noncomputable def LP_27_0 (k : AV tau → Mem tau → Option Unit) (x0 : (List S60)) (x1 : Int) (x2 : Int) (x3 : (List ByteArray)) : Option Unit := loopA E_27 (codeA E_27 C_27 D_27 (codeP B_27 [1, 1, 0, 1, 0, 0])) (codeP B_27 [1, 1, 0, 1, 0, 0]) (K_27_0 k) (st_27_0 x0 x1 x2 x3)
theorem w_27_0 (k : AV tau → Mem tau → Option Unit) (x0 : (List S60)) (x1 : Int) (x2 : Int) (x3 : (List ByteArray)) : codeA E_27 C_27 D_27 (codeP B_27 [1, 1, 0, 1, 0, 0]) (kL E_27 C_27 D_27 (codeP B_27 [1, 1, 0, 1, 0, 0]) (K_27_0 k)) (st_27_0 x0 x1 x2 x3) = (brA (decide (x2 < x1)) (brA (decide ((0 : Int) ≤ x2)) (brA (decide (x2 < ((x0.length : Nat) : Int))) (callX (fun n => impl_insText.f n ((rd_T60 x0 x2).f0) ((rd_T60 x0 x2).f1) ((rd_T60 x0 x2).f2) ((rd_T60 x0 x2).f3)) fun t0 => brA (decide ((x3.length + 1) ≤ 8796093022208)) (LP_27_0 k x0 x1 (wrap64 (x2 + (1 : Int))) (x3 ++ ([t0] : List ByteArray))) (none)) (none)) (none)) (callX (fun n => strings_Join.f n x3 (bs [44])) fun t1 => k (.str t1) ⟨[], []⟩) : Option Unit) := by
 simp only [← wrapA_i64]
 kernel_rfl
theorem w_27 (l0 : List S60) (k : AV tau → Mem tau → Option Unit) : fnA E_27 C_27 D_27 Tryd.f27 B_27 [.sl 60 l0] ⟨[], []⟩ k = (LP_27_0 k l0 ((l0.length : Nat) : Int) (0 : Int) ([] : List ByteArray) : Option Unit) := by kernel_rfl
def S_27_0 (N : Nat) : Prop := ∀ (k : AV tau → Mem tau → Option Unit) (x0 : (List S60)) (x1 : Int) (x2 : Int) (x3 : (List ByteArray)) (r : ByteArray), impl_ProgText.l0 N (x0) (x1) (x2) (x3) = some r → k (.str (r)) ⟨[], []⟩ = some () → LP_27_0 k x0 x1 x2 x3 = some ()
theorem L_27 (N : Nat) : S_27_0 N := by
 induction N using Nat.strongRecOn with | _ N0 ih =>
 skip
 intro k x0 x1 x2 x3 r h hk
 rcases N0 with _ | N
 · cases h
 first | rw [impl_ProgText.l0] at h | simp only [impl_ProgText.l0] at h | (unfold impl_ProgText.l0 at h; dsimp only at h)
 refine loop_fold mC_27 mD_27 ?_
 refine (w_27_0 k x0 x1 x2 x3).trans ?_
 refine br_eti h rfl (fun c13 h => ?_) (fun c13 h => ?_)
 ·refine call_h N h (fun t1 e14 h => ?_)
  cases h; exact hk
 refine br_g h rfl (fun c15 h => ?_)
 refine br_g h rfl (fun c16 h => ?_)
 refine call_h N h (fun t0 e17 h => ?_)
 refine br_g h rfl (fun c18 h => ?_)
 exact (ih N (by omega)) _ _ _ _ _ _ h hk
theorem okc_27 (args : List (AV tau)) (m : Mem tau) (κ : AV tau → Mem tau → Option Unit) (hh : c_27 args m κ = some ()) : ∃ av m1, κ av m1 = some () ∧ ToldA Tryd.prog TT (pnT 27) 27 args m av m1 := by
 obtain ⟨bx_, rw_⟩ := m
 unfold c_27 at hh
 simp only at hh
 split at hh
 case h_2 => cases hh
 rename_i b0
 obtain ⟨l0, hx0, hh0⟩ := bO_some hh
 have ex0 := asSl_some hx0
 subst ex0
 obtain ⟨N, t, h, hκ⟩ := callX_some hh0
 refine ⟨_, _, hκ, told_of_run pq okC_27 (fun _ _ _ => drawA_ok pq okC_27 hmix) (E := E_27) (fn := Tryd.f27) (body := B_27) (by kernel_rfl) (by kernel_rfl) (by kernel_rfl) (by rfl) (by exact Nat.le_of_ble_eq_true rfl) (fun k hk => ?_)⟩
 refine (w_27 l0 k).trans ?_
 replace h : impl_ProgText.f N l0 = some t := h
 unfold impl_ProgText.f at h
 exact (L_27 N) _ _ _ _ _ _ h hk
noncomputable def C_9 : Ctr tau Unit := ctrS 27 c_27 C_27
noncomputable def D_9 : Drw tau := drawA E_9 C_9
theorem okC_9 : CtrOk Tryd.prog TT pnT C_9 := ctrS_ok okC_27 okc_27
theorem mC_9 : CtrMono C_9 := ctrS_mono mC_27 mc_27
theorem mD_9 : DrMono D_9 := drawA_mono mC_9
noncomputable def B_9 : Code := Tryd.f9.body.getD .skip
theorem mc_9 (args : List (AV tau)) (m : Mem tau) (k k' : AV tau → Mem tau → Option Unit) (hk : ∀ av m, k av m = some () → k' av m = some ()) (h : c_9 args m k = some ()) : c_9 args m k' = some () := by
 unfold c_9 at h ⊢
 split at h
 · repeat' first | exact callX_mono (fun _ h => hk _ _ h) h | refine bO_mono (fun _ h => ?_) h
 · cases h
noncomputable def K_9_0 (k : AV tau → Mem tau → Option Unit) : Kon tau := (kBlock 0 (kS E_9 C_9 D_9 (codeP B_9 [1, 1, 1, 1, 1, 1, 1, 1]) (kEnd E_9 Tryd.f9 k)))
noncomputable def K_9_1 (k : AV tau → Mem tau → Option Unit) : Kon tau := (kBlock 2 (kS E_9 C_9 D_9 (codeP B_9 [1, 1, 1, 1, 1, 1, 1, 0, 1, 0, 0, 1, 0, 0, 1, 1]) (kBlock 1 (kS E_9 C_9 D_9 (codeP B_9 [1, 1, 1, 1, 1, 1, 1, 0, 1, 0, 0, 1, 1]) (kL E_9 C_9 D_9 (codeP B_9 [1, 1, 1, 1, 1, 1, 1, 0, 1, 0, 0]) (kBlock 0 (kS E_9 C_9 D_9 (codeP B_9 [1, 1, 1, 1, 1, 1, 1, 1]) (kEnd E_9 Tryd.f9 k))))))))
noncomputable def K_9_2 (k : AV tau → Mem tau → Option Unit) : Kon tau := (kBlock 4 (kS E_9 C_9 D_9 (codeP B_9 [1, 1, 1, 1, 1, 1, 1, 0, 1, 0, 0, 1, 0, 0, 1, 1, 1, 1, 1, 1]) (kBlock 1 (kS E_9 C_9 D_9 (codeP B_9 [1, 1, 1, 1, 1, 1, 1, 0, 1, 0, 0, 1, 1]) (kL E_9 C_9 D_9 (codeP B_9 [1, 1, 1, 1, 1, 1, 1, 0, 1, 0, 0]) (kBlock 0 (kS E_9 C_9 D_9 (codeP B_9 [1, 1, 1, 1, 1, 1, 1, 1]) (kEnd E_9 Tryd.f9 k))))))))
noncomputable def K_9_3 (k : AV tau → Mem tau → Option Unit) : Kon tau := (kBlock 6 (kS E_9 C_9 D_9 (codeP B_9 [1, 1, 1, 1, 1, 1, 1, 0, 1, 0, 0, 1, 0, 0, 1, 1, 1, 1, 1, 1, 1]) (kBlock 1 (kS E_9 C_9 D_9 (codeP B_9 [1, 1, 1, 1, 1, 1, 1, 0, 1, 0, 0, 1, 1]) (kL E_9 C_9 D_9 (codeP B_9 [1, 1, 1, 1, 1, 1, 1, 0, 1, 0, 0]) (kBlock 0 (kS E_9 C_9 D_9 (codeP B_9 [1, 1, 1, 1, 1, 1, 1, 1]) (kEnd E_9 Tryd.f9 k))))))))
def st_9_0 (x0 : Int) (x1 : (List S60)) (x2 : (List S60)) (x3 : (List S60)) (x4 : (List S60)) (x5 : (List Int)) : St tau := ⟨tmL 158 0 [(5, .own 0 0), (6, .own 1 0), (7, .own 2 0), (8, .own 3 0), (9, .own 4 0), (10, .int .i64 x0)], ⟨[], [some ⟨60, x1, 0⟩, some ⟨60, x2, 0⟩, some ⟨60, x3, 0⟩, some ⟨60, x4, 0⟩, some ⟨3, x5, 0⟩]⟩⟩
noncomputable def LP_9_0 (k : AV tau → Mem tau → Option Unit) (x0 : Int) (x1 : (List S60)) (x2 : (List S60)) (x3 : (List S60)) (x4 : (List S60)) (x5 : (List Int)) : Option Unit := loopA E_9 (codeA E_9 C_9 D_9 (codeP B_9 [1, 1, 1, 1, 1, 1, 1, 0, 1, 0, 0])) (codeP B_9 [1, 1, 1, 1, 1, 1, 1, 0, 1, 0, 0]) (K_9_0 k) (st_9_0 x0 x1 x2 x3 x4 x5)
def st_9_1 (x0 : Int) (x1 : Bool) (x2 : Int) (x3 : (List S60)) (x4 : (List S60)) (x5 : (List S60)) (x6 : (List S60)) (x7 : (List Int)) : St tau := ⟨tmL 158 0 [(5, .own 0 0), (6, .own 1 0), (7, .own 2 0), (8, .own 3 0), (9, .own 4 0), (10, .int .i64 x0), (11, .bool x1), (12, .int .i64 x2)], ⟨[], [some ⟨60, x3, 0⟩, some ⟨60, x4, 0⟩, some ⟨60, x5, 0⟩, some ⟨60, x6, 0⟩, some ⟨3, x7, 0⟩]⟩⟩
noncomputable def LP_9_1 (k : AV tau → Mem tau → Option Unit) (x0 : Int) (x1 : Bool) (x2 : Int) (x3 : (List S60)) (x4 : (List S60)) (x5 : (List S60)) (x6 : (List S60)) (x7 : (List Int)) : Option Unit := loopA E_9 (codeA E_9 C_9 D_9 (codeP B_9 [1, 1, 1, 1, 1, 1, 1, 0, 1, 0, 0, 1, 0, 0, 1, 0, 1, 0, 0])) (codeP B_9 [1, 1, 1, 1, 1, 1, 1, 0, 1, 0, 0, 1, 0, 0, 1, 0, 1, 0, 0]) (K_9_1 k) (st_9_1 x0 x1 x2 x3 x4 x5 x6 x7)
def st_9_2 (x0 : Int) (x1 : Bool) (x2 : Bool) (x3 : Int) (x4 : (List S60)) (x5 : (List S60)) (x6 : (List S60)) (x7 : (List S60)) (x8 : (List Int)) (x9 : (List Int)) (x10 : (List Int)) : St tau := ⟨tmL 158 0 [(5, .own 0 0), (6, .own 1 0), (7, .own 2 0), (8, .own 3 0), (9, .own 4 0), (10, .int .i64 x0), (11, .bool x1), (13, .bool x2), (14, .own 5 0), (15, .own 6 0), (16, .int .i64 x3)], ⟨[], [some ⟨60, x4, 0⟩, some ⟨60, x5, 0⟩, some ⟨60, x6, 0⟩, some ⟨60, x7, 0⟩, some ⟨3, x8, 0⟩, some ⟨3, x9, 0⟩, some ⟨3, x10, 0⟩]⟩⟩
noncomputable def LP_9_2 (k : AV tau → Mem tau → Option Unit) (x0 : Int) (x1 : Bool) (x2 : Bool) (x3 : Int) (x4 : (List S60)) (x5 : (List S60)) (x6 : (List S60)) (x7 : (List S60)) (x8 : (List Int)) (x9 : (List Int)) (x10 : (List Int)) : Option Unit := loopA E_9 (codeA E_9 C_9 D_9 (codeP B_9 [1, 1, 1, 1, 1, 1, 1, 0, 1, 0, 0, 1, 0, 0, 1, 1, 1, 1, 1, 0, 1, 0, 0])) (codeP B_9 [1, 1, 1, 1, 1, 1, 1, 0, 1, 0, 0, 1, 0, 0, 1, 1, 1, 1, 1, 0, 1, 0, 0]) (K_9_2 k) (st_9_2 x0 x1 x2 x3 x4 x5 x6 x7 x8 x9 x10)
def st_9_3 (x0 : Int) (x1 : Bool) (x2 : Bool) (x3 : Int) (x4 : (List S60)) (x5 : (List S60)) (x6 : (List S60)) (x7 : (List S60)) (x8 : (List Int)) (x9 : (List Int)) : St tau := ⟨tmL 158 0 [(5, .own 0 0), (6, .own 1 0), (7, .own 2 0), (8, .own 3 0), (9, .own 4 0), (10, .int .i64 x0), (11, .bool x1), (13, .bool x2), (15, .own 5 0), (17, .int .i64 x3)], ⟨[], [some ⟨60, x4, 0⟩, some ⟨60, x5, 0⟩, some ⟨60, x6, 0⟩, some ⟨60, x7, 0⟩, some ⟨3, x8, 0⟩, some ⟨3, x9, 0⟩]⟩⟩
noncomputable def LP_9_3 (k : AV tau → Mem tau → Option Unit) (x0 : Int) (x1 : Bool) (x2 : Bool) (x3 : Int) (x4 : (List S60)) (x5 : (List S60)) (x6 : (List S60)) (x7 : (List S60)) (x8 : (List Int)) (x9 : (List Int)) : Option Unit := loopA E_9 (codeA E_9 C_9 D_9 (codeP B_9 [1, 1, 1, 1, 1, 1, 1, 0, 1, 0, 0, 1, 0, 0, 1, 1, 1, 1, 1, 1, 0, 1, 0, 0])) (codeP B_9 [1, 1, 1, 1, 1, 1, 1, 0, 1, 0, 0, 1, 0, 0, 1, 1, 1, 1, 1, 1, 0, 1, 0, 0]) (K_9_3 k) (st_9_3 x0 x1 x2 x3 x4 x5 x6 x7 x8 x9)
theorem w_9_0 (k : AV tau → Mem tau → Option Unit) (x0 : Int) (x1 : (List S60)) (x2 : (List S60)) (x3 : (List S60)) (x4 : (List S60)) (x5 : (List Int)) : codeA E_9 C_9 D_9 (codeP B_9 [1, 1, 1, 1, 1, 1, 1, 0, 1, 0, 0]) (kL E_9 C_9 D_9 (codeP B_9 [1, 1, 1, 1, 1, 1, 1, 0, 1, 0, 0]) (K_9_0 k)) (st_9_0 x0 x1 x2 x3 x4 x5) = (brA (decide (x0 < (4 : Int))) (LP_9_1 k x0 false (0 : Int) x1 x2 x3 x4 x5) (callX (fun n => spec_ProgOk.f n x1) fun t7 => brA (!t7) (callX (fun n => impl_ProgOk.f n x1) fun t8 => callX (fun n => spec_ProgOk.f n x1) fun t9 => k (.bool (t8 == t9)) ⟨[], []⟩) (callX (fun n => spec_ProgOk.f n x2) fun t10 => brA (!t10) (callX (fun n => impl_ProgOk.f n x1) fun t11 => callX (fun n => spec_ProgOk.f n x1) fun t12 => k (.bool (t11 == t12)) ⟨[], []⟩) (callX (fun n => spec_ProgOk.f n x3) fun t13 => brA (!t13) (callX (fun n => impl_ProgOk.f n x1) fun t14 => callX (fun n => spec_ProgOk.f n x1) fun t15 => k (.bool (t14 == t15)) ⟨[], []⟩) (callX (fun n => impl_ProgSame.f n x1 x2) fun t16 => callX (fun n => impl_ProgText.f n x1) fun t17 => callX (fun n => impl_ProgText.f n x2) fun t18 => brA (t16 == (decide (t17 = t18))) (callX (fun n => impl_ProgSame.f n x1 x3) fun t19 => callX (fun n => impl_ProgText.f n x1) fun t20 => callX (fun n => impl_ProgText.f n x3) fun t21 => brA (t19 == (decide (t20 = t21))) (callX (fun n => impl_ProgOk.f n x4) fun t22 => k (.bool (t22 == (decide (((x4.length : Nat) : Int) ≤ (10 : Int))))) ⟨[], []⟩) (k (.bool false) ⟨[], []⟩)) (k (.bool false) ⟨[], []⟩))))) : Option Unit) := by kernel_rfl
theorem w_9_1 (k : AV tau → Mem tau → Option Unit) (x0 : Int) (x1 : Bool) (x2 : Int) (x3 : (List S60)) (x4 : (List S60)) (x5 : (List S60)) (x6 : (List S60)) (x7 : (List Int)) : codeA E_9 C_9 D_9 (codeP B_9 [1, 1, 1, 1, 1, 1, 1, 0, 1, 0, 0, 1, 0, 0, 1, 0, 1, 0, 0]) (kL E_9 C_9 D_9 (codeP B_9 [1, 1, 1, 1, 1, 1, 1, 0, 1, 0, 0, 1, 0, 0, 1, 0, 1, 0, 0]) (K_9_1 k)) (st_9_1 x0 x1 x2 x3 x4 x5 x6 x7) = (brA (decide (x2 < ((x7.length : Nat) : Int))) (brA x1 (LP_9_1 k x0 true (wrap64 (x2 + (1 : Int))) x3 x4 x5 x6 x7) (brA (decide ((0 : Int) ≤ x2)) (brA (decide (x2 < ((x7.length : Nat) : Int))) (LP_9_1 k x0 (decide ((rd x7 x2) = x0)) (wrap64 (x2 + (1 : Int))) x3 x4 x5 x6 x7) (none)) (none))) (callX (fun n => impl_ProgPuts.f n x3) fun t23 => callX (fun n => impl_ProgPuts.f n x5) fun t24 => LP_9_2 k x0 x1 false (0 : Int) x3 x4 x5 x6 x7 t23 t24) : Option Unit) := by
 simp only [← wrapA_i64]
 kernel_rfl
theorem w_9_2 (k : AV tau → Mem tau → Option Unit) (x0 : Int) (x1 : Bool) (x2 : Bool) (x3 : Int) (x4 : (List S60)) (x5 : (List S60)) (x6 : (List S60)) (x7 : (List S60)) (x8 : (List Int)) (x9 : (List Int)) (x10 : (List Int)) : codeA E_9 C_9 D_9 (codeP B_9 [1, 1, 1, 1, 1, 1, 1, 0, 1, 0, 0, 1, 0, 0, 1, 1, 1, 1, 1, 0, 1, 0, 0]) (kL E_9 C_9 D_9 (codeP B_9 [1, 1, 1, 1, 1, 1, 1, 0, 1, 0, 0, 1, 0, 0, 1, 1, 1, 1, 1, 0, 1, 0, 0]) (K_9_2 k)) (st_9_2 x0 x1 x2 x3 x4 x5 x6 x7 x8 x9 x10) = (brA (decide (x3 < ((x9.length : Nat) : Int))) (brA x2 (LP_9_2 k x0 x1 true (wrap64 (x3 + (1 : Int))) x4 x5 x6 x7 x8 x9 x10) (brA (decide ((0 : Int) ≤ x3)) (brA (decide (x3 < ((x9.length : Nat) : Int))) (LP_9_2 k x0 x1 (decide ((rd x9 x3) = x0)) (wrap64 (x3 + (1 : Int))) x4 x5 x6 x7 x8 x9 x10) (none)) (none))) (LP_9_3 k x0 x1 x2 (0 : Int) x4 x5 x6 x7 x8 x10) : Option Unit) := by
 simp only [← wrapA_i64]
 kernel_rfl
theorem w_9_3 (k : AV tau → Mem tau → Option Unit) (x0 : Int) (x1 : Bool) (x2 : Bool) (x3 : Int) (x4 : (List S60)) (x5 : (List S60)) (x6 : (List S60)) (x7 : (List S60)) (x8 : (List Int)) (x9 : (List Int)) : codeA E_9 C_9 D_9 (codeP B_9 [1, 1, 1, 1, 1, 1, 1, 0, 1, 0, 0, 1, 0, 0, 1, 1, 1, 1, 1, 1, 0, 1, 0, 0]) (kL E_9 C_9 D_9 (codeP B_9 [1, 1, 1, 1, 1, 1, 1, 0, 1, 0, 0, 1, 0, 0, 1, 1, 1, 1, 1, 1, 0, 1, 0, 0]) (K_9_3 k)) (st_9_3 x0 x1 x2 x3 x4 x5 x6 x7 x8 x9) = (brA (decide (x3 < ((x9.length : Nat) : Int))) (brA x2 (LP_9_3 k x0 x1 true (wrap64 (x3 + (1 : Int))) x4 x5 x6 x7 x8 x9) (brA (decide ((0 : Int) ≤ x3)) (brA (decide (x3 < ((x9.length : Nat) : Int))) (LP_9_3 k x0 x1 (decide ((rd x9 x3) = x0)) (wrap64 (x3 + (1 : Int))) x4 x5 x6 x7 x8 x9) (none)) (none))) (brA (!(x1 == x2)) (k (.bool false) ⟨[], []⟩) (LP_9_0 k (wrap64 (x0 + (1 : Int))) x4 x5 x6 x7 x8)) : Option Unit) := by
 simp only [← wrapA_i64]
 kernel_rfl
theorem w_9 (l0 : List Int) (l1 : List Int) (k : AV tau → Mem tau → Option Unit) : fnA E_9 C_9 D_9 Tryd.f9 B_9 [.sl 5 l0, .sl 5 l1] ⟨[], []⟩ k = (brA (decide (((l0.length : Nat) : Int) > (1048576 : Int))) (k (.bool true) ⟨[], []⟩) (brA (decide (((l1.length : Nat) : Int) > (1048576 : Int))) (k (.bool true) ⟨[], []⟩) (callX (fun n => spec_DrawProgSame.f n l0) fun t0 => callX (fun n => spec_DrawProgLoads.f n l1) fun t1 => callX (fun n => impl_ProgSame.f n t0.1 t0.2) fun t2 => callX (fun n => spec_ProgSame.f n t0.1 t0.2) fun t3 => brA (!(t2 == t3)) (k (.bool false) ⟨[], []⟩) (callX (fun n => impl_ProgSame.f n t0.1 t1) fun t4 => callX (fun n => impl_ProgSame.f n t1 t0.1) fun t5 => brA (!(t4 == t5)) (k (.bool false) ⟨[], []⟩) (brA (decide ((0 + t0.1.length) ≤ 4398046511104)) (brA (decide ((t0.1.length + t1.length) ≤ 4398046511104)) (callX (fun n => impl_ProgPuts.f n (t0.1 ++ t1)) fun t6 => LP_9_0 k (0 : Int) t0.1 t0.2 t1 (t0.1 ++ t1) t6) (none)) (none))))) : Option Unit) := by kernel_rfl
def S_9_0 (N : Nat) : Prop := ∀ (k : AV tau → Mem tau → Option Unit) (x0 : Int) (x1 : (List S60)) (x2 : (List S60)) (x3 : (List S60)) (x4 : (List S60)) (x5 : (List Int)) (r : Bool), laws_FnProgSame.l0 N (x0) (x1) (x2) (x3) (x4) (x5) = some r → k (.bool (r)) ⟨[], []⟩ = some () → LP_9_0 k x0 x1 x2 x3 x4 x5 = some ()
def S_9_1 (N : Nat) : Prop := ∀ (k : AV tau → Mem tau → Option Unit) (x0 : Int) (x1 : Bool) (x2 : Int) (x3 : (List S60)) (x4 : (List S60)) (x5 : (List S60)) (x6 : (List S60)) (x7 : (List Int)) (r : Bool), laws_FnProgSame.l1 N (x0) (x1) (x2) (x3) (x4) (x5) (x6) (x7) = some r → k (.bool (r)) ⟨[], []⟩ = some () → LP_9_1 k x0 x1 x2 x3 x4 x5 x6 x7 = some ()
def S_9_2 (N : Nat) : Prop := ∀ (k : AV tau → Mem tau → Option Unit) (x0 : Int) (x1 : Bool) (x2 : Bool) (x3 : Int) (x4 : (List S60)) (x5 : (List S60)) (x6 : (List S60)) (x7 : (List S60)) (x8 : (List Int)) (x9 : (List Int)) (x10 : (List Int)) (r : Bool), laws_FnProgSame.l2 N (x0) (x1) (x2) (x3) (x4) (x5) (x6) (x7) (x8) (x9) (x10) = some r → k (.bool (r)) ⟨[], []⟩ = some () → LP_9_2 k x0 x1 x2 x3 x4 x5 x6 x7 x8 x9 x10 = some ()
def S_9_3 (N : Nat) : Prop := ∀ (k : AV tau → Mem tau → Option Unit) (x0 : Int) (x1 : Bool) (x2 : Bool) (x3 : Int) (x4 : (List S60)) (x5 : (List S60)) (x6 : (List S60)) (x7 : (List S60)) (x8 : (List Int)) (x9 : (List Int)) (r : Bool), laws_FnProgSame.l3 N (x0) (x1) (x2) (x3) (x4) (x5) (x6) (x7) (x8) (x9) = some r → k (.bool (r)) ⟨[], []⟩ = some () → LP_9_3 k x0 x1 x2 x3 x4 x5 x6 x7 x8 x9 = some ()
theorem L_9 (N : Nat) : S_9_0 N ∧ S_9_1 N ∧ S_9_2 N ∧ S_9_3 N := by
 induction N using Nat.strongRecOn with | _ N0 ih =>
 refine ⟨?_, ?_, ?_, ?_⟩
 ·intro k x0 x1 x2 x3 x4 x5 r h hk
  rcases N0 with _ | N
  · cases h
  first | rw [laws_FnProgSame.l0] at h | simp only [laws_FnProgSame.l0] at h | (unfold laws_FnProgSame.l0 at h; dsimp only at h)
  refine loop_fold mC_9 mD_9 ?_
  refine (w_9_0 k x0 x1 x2 x3 x4 x5).trans ?_
  refine br_ite h rfl (fun c101 h => ?_) (fun c101 h => ?_)
  ·exact (ih N (by omega)).2.1 _ _ _ _ _ _ _ _ _ _ h hk
  refine call_h N h (fun t7 e102 h => ?_)
  refine br_etn h (congrArg not dect) (fun c103 h => ?_) (fun c103 h => ?_)
  ·refine call_h N h (fun t8 e104 h => ?_)
   refine call_h N h (fun t9 e105 h => ?_)
   cases h; exact hk
  refine call_h N h (fun t10 e106 h => ?_)
  refine br_etn h (congrArg not dect) (fun c107 h => ?_) (fun c107 h => ?_)
  ·refine call_h N h (fun t11 e108 h => ?_)
   refine call_h N h (fun t12 e109 h => ?_)
   cases h; exact hk
  refine call_h N h (fun t13 e110 h => ?_)
  refine br_etn h (congrArg not dect) (fun c111 h => ?_) (fun c111 h => ?_)
  ·refine call_h N h (fun t14 e112 h => ?_)
   refine call_h N h (fun t15 e113 h => ?_)
   cases h; exact hk
  refine call_h N h (fun t16 e114 h => ?_)
  refine call_h N h (fun t17 e115 h => ?_)
  refine call_h N h (fun t18 e116 h => ?_)
  refine br_eti h (by first | rfl | exact dect | exact (congrArg not dect) | (simp; done) | (simp [beqI]; done) | (simp; omega)) (fun c117 h => ?_) (fun c117 h => ?_)
  ·cases h; exact hk
  refine call_h N h (fun t19 e118 h => ?_)
  refine call_h N h (fun t20 e119 h => ?_)
  refine call_h N h (fun t21 e120 h => ?_)
  refine br_eti h (by first | rfl | exact dect | exact (congrArg not dect) | (simp; done) | (simp [beqI]; done) | (simp; omega)) (fun c121 h => ?_) (fun c121 h => ?_)
  ·cases h; exact hk
  refine call_h N h (fun t22 e122 h => ?_)
  cases h; exact hk
 ·intro k x0 x1 x2 x3 x4 x5 x6 x7 r h hk
  rcases N0 with _ | N
  · cases h
  first | rw [laws_FnProgSame.l1] at h | simp only [laws_FnProgSame.l1] at h | (unfold laws_FnProgSame.l1 at h; dsimp only at h)
  refine loop_fold mC_9 mD_9 ?_
  refine (w_9_1 k x0 x1 x2 x3 x4 x5 x6 x7).trans ?_
  refine br_eti h rfl (fun c123 h => ?_) (fun c123 h => ?_)
  ·refine call_h N h (fun t23 e124 h => ?_)
   refine call_h N h (fun t24 e125 h => ?_)
   exact (ih N (by omega)).2.2.1 _ _ _ _ _ _ _ _ _ _ _ _ _ h hk
  refine br_ite h dect (fun c126 h => ?_) (fun c126 h => ?_)
  ·exact (ih N (by omega)).2.1 _ _ _ _ _ _ _ _ _ _ h hk
  refine br_g h rfl (fun c127 h => ?_)
  refine br_g h rfl (fun c128 h => ?_)
  exact (ih N (by omega)).2.1 _ _ _ _ _ _ _ _ _ _ h hk
 ·intro k x0 x1 x2 x3 x4 x5 x6 x7 x8 x9 x10 r h hk
  rcases N0 with _ | N
  · cases h
  first | rw [laws_FnProgSame.l2] at h | simp only [laws_FnProgSame.l2] at h | (unfold laws_FnProgSame.l2 at h; dsimp only at h)
  refine loop_fold mC_9 mD_9 ?_
  refine (w_9_2 k x0 x1 x2 x3 x4 x5 x6 x7 x8 x9 x10).trans ?_
  refine br_eti h rfl (fun c129 h => ?_) (fun c129 h => ?_)
  ·exact (ih N (by omega)).2.2.2 _ _ _ _ _ _ _ _ _ _ _ _ h hk
  refine br_ite h dect (fun c130 h => ?_) (fun c130 h => ?_)
  ·exact (ih N (by omega)).2.2.1 _ _ _ _ _ _ _ _ _ _ _ _ _ h hk
  refine br_g h rfl (fun c131 h => ?_)
  refine br_g h rfl (fun c132 h => ?_)
  exact (ih N (by omega)).2.2.1 _ _ _ _ _ _ _ _ _ _ _ _ _ h hk
 ·intro k x0 x1 x2 x3 x4 x5 x6 x7 x8 x9 r h hk
  rcases N0 with _ | N
  · cases h
  first | rw [laws_FnProgSame.l3] at h | simp only [laws_FnProgSame.l3] at h | (unfold laws_FnProgSame.l3 at h; dsimp only at h)
  refine loop_fold mC_9 mD_9 ?_
  refine (w_9_3 k x0 x1 x2 x3 x4 x5 x6 x7 x8 x9).trans ?_
  refine br_eti h rfl (fun c133 h => ?_) (fun c133 h => ?_)
  ·refine br_etn h (by first | rfl | exact dect | exact (congrArg not dect) | (simp; done) | (simp [beqI]; done) | (simp; omega)) (fun c134 h => ?_) (fun c134 h => ?_)
   ·cases h; exact hk
   exact (ih N (by omega)).1 _ _ _ _ _ _ _ _ h hk
  refine br_ite h dect (fun c135 h => ?_) (fun c135 h => ?_)
  ·exact (ih N (by omega)).2.2.2 _ _ _ _ _ _ _ _ _ _ _ _ h hk
  refine br_g h rfl (fun c136 h => ?_)
  refine br_g h rfl (fun c137 h => ?_)
  exact (ih N (by omega)).2.2.2 _ _ _ _ _ _ _ _ _ _ _ _ h hk
theorem okc_9 (args : List (AV tau)) (m : Mem tau) (κ : AV tau → Mem tau → Option Unit) (hh : c_9 args m κ = some ()) : ∃ av m1, κ av m1 = some () ∧ ToldA Tryd.prog TT (pnT 9) 9 args m av m1 := by
 obtain ⟨bx_, rw_⟩ := m
 unfold c_9 at hh
 simp only at hh
 split at hh
 case h_2 => cases hh
 rename_i b0 b1
 obtain ⟨l0, hx0, hh0⟩ := bO_some hh
 obtain ⟨l1, hx1, hh1⟩ := bO_some hh0
 have ex0 := asSl_some hx0
 have ex1 := asSl_some hx1
 subst ex0 ex1
 obtain ⟨N, t, h, hκ⟩ := callX_some hh1
 refine ⟨_, _, hκ, told_of_run pq okC_9 (fun _ _ _ => drawA_ok pq okC_9 hmix) (E := E_9) (fn := Tryd.f9) (body := B_9) (by kernel_rfl) (by kernel_rfl) (by kernel_rfl) (by rfl) (by exact Nat.le_of_ble_eq_true rfl) (fun k hk => ?_)⟩
 refine (w_9 l0 l1 k).trans ?_
 replace h : laws_FnProgSame.f N l0 l1 = some t := h
 unfold laws_FnProgSame.f at h
 refine br_ite h rfl (fun c138 h => ?_) (fun c138 h => ?_)
 ·cases h; exact hk
 refine br_ite h rfl (fun c139 h => ?_) (fun c139 h => ?_)
 ·cases h; exact hk
 refine call_h N h (fun t0 e140 h => ?_)
 refine call_h N h (fun t1 e141 h => ?_)
 refine call_h N h (fun t2 e142 h => ?_)
 refine call_h N h (fun t3 e143 h => ?_)
 refine br_etn h (by first | rfl | exact dect | exact (congrArg not dect) | (simp; done) | (simp [beqI]; done) | (simp; omega)) (fun c144 h => ?_) (fun c144 h => ?_)
 ·cases h; exact hk
 refine call_h N h (fun t4 e145 h => ?_)
 refine call_h N h (fun t5 e146 h => ?_)
 refine br_etn h (by first | rfl | exact dect | exact (congrArg not dect) | (simp; done) | (simp [beqI]; done) | (simp; omega)) (fun c147 h => ?_) (fun c147 h => ?_)
 ·cases h; exact hk
 refine br_g h rfl (fun c148 h => ?_)
 refine br_g h rfl (fun c149 h => ?_)
 refine call_h N h (fun t6 e150 h => ?_)
 exact (L_9 N).1 _ _ _ _ _ _ _ _ h hk
end Go.Proofs.YtlpgpckggnimhaaDoor.PFnProgSame
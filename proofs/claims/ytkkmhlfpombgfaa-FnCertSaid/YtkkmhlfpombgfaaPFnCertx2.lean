/- The machine's texts of FnCert (links). Conditions: none. -/
import Derived.Test.YtkkmhlfpombgfaaPFnCertx1
set_option linter.unusedVariables false
set_option linter.unusedSimpArgs false
set_option maxRecDepth 100000
set_option maxHeartbeats 4000000
namespace Go.Proofs.Ytkkmhlfpombgfaa.PFnCert
open Go.RowKit Go.Proofs.YtkkmhlfpombgfaaW.PrintWords Go.Proofs.YtkkmhlfpombgfaaW.PrintLast Go.Proofs.YtkkmhlfpombgfaaW.PrintMore
open Go Go.Proofs Am
theorem w_46_0 (k : AV tau → Mem tau → Option Unit) (x0 : (List S77)) (x1 : Int) (x2 : Int) (x3 : Int) (x4 : (List S37)) (x5 : (List S84)) (x6 : (List S37)) (x7 : (List S84)) : codeA E_46 C_46 D_46 (codeP B_46 [1, 1, 1, 0, 1, 0, 0]) (kL E_46 C_46 D_46 (codeP B_46 [1, 1, 1, 0, 1, 0, 0]) (K_46_0 k)) (st_46_0 x0 x1 x2 x3 x4 x5 x6 x7) = (brA (decide (x1 < ((x0.length : Nat) : Int))) (brA (decide ((0 : Int) ≤ x1)) (brA (decide (x1 < ((x0.length : Nat) : Int))) (callX (fun n => spec_CertEntry.f n ((rd_T77 x0 x1).f0) (((rd_T77 x0 x1).f1).f0) (((rd_T77 x0 x1).f1).f1) (((rd_T77 x0 x1).f2).f0) (((rd_T77 x0 x1).f2).f1) (((rd_T77 x0 x1).f2).f2) (((rd_T77 x0 x1).f2).f3)) fun t1 => brA (!t1) (k (.agg [.int .i64 (0 : Int), .own 0 0, .own 1 0]) ⟨[], [some ⟨37, ([] : List S37), 0⟩, some ⟨84, ([] : List S84), 0⟩]⟩) (brA (decide ((0 : Int) ≤ x1)) (brA (decide (x1 < ((x0.length : Nat) : Int))) (andA (callX (fun n => spec_l5Apply.f n x3 x6 x7 ((rd_T77 x0 x1).f0) (((rd_T77 x0 x1).f1).f0) (((rd_T77 x0 x1).f1).f1) (((rd_T77 x0 x1).f2).f0) (((rd_T77 x0 x1).f2).f1) (((rd_T77 x0 x1).f2).f2) (((rd_T77 x0 x1).f2).f3)) fun t2 => LP_46_0 k x0 (wrap64 (x1 + (1 : Int))) x2 t2.1 x4 x5 t2.2.1 t2.2.2.1) (callX (fun n => spec_l5Apply.f n x3 x6 x7 ((rd_T77 x0 x1).f0) (((rd_T77 x0 x1).f1).f0) (((rd_T77 x0 x1).f1).f1) (((rd_T77 x0 x1).f2).f0) (((rd_T77 x0 x1).f2).f1) (((rd_T77 x0 x1).f2).f2) (((rd_T77 x0 x1).f2).f3)) fun t3 => LP_46_0 k x0 (wrap64 (x1 + (1 : Int))) x2 t3.1 x4 x5 t3.2.1 t3.2.2.1)) (none)) (none))) (none)) (none)) (k (.agg [.int .i64 x3, .own 0 0, .own 1 0]) ⟨[], [some ⟨37, x6, 0⟩, some ⟨84, x7, 0⟩]⟩) : Option Unit) := by kernel_rfl
theorem w_46 (l0 : List S77) (k : AV tau → Mem tau → Option Unit) : fnA E_46 C_46 D_46 Try.f46 B_46 [.sl 77 l0] ⟨[], []⟩ k = (callX (fun n => spec_CertOpen.f ) fun t0 => brA (decide (((l0.length : Nat) : Int) > (40 : Int))) (k (.agg [.int .i64 (0 : Int), .own 0 0, .own 1 0]) ⟨[], [some ⟨37, ([] : List S37), 0⟩, some ⟨84, ([] : List S84), 0⟩]⟩) (LP_46_0 k l0 (0 : Int) (0 : Int) t0.1 ([] : List S37) ([] : List S84) t0.2.1 t0.2.2) : Option Unit) := by kernel_rfl
def S_46_0 (N : Nat) : Prop := ∀ (k : AV tau → Mem tau → Option Unit) (x0 : (List S77)) (x1 : Int) (x2 : Int) (x3 : Int) (x4 : (List S37)) (x5 : (List S84)) (x6 : (List S37)) (x7 : (List S84)) (r : Int × (List (S37)) × (List (S84))), spec_CertFold.l0 N (x0) (x1) (x3) (x6) (x7) = some r → k (.agg [.int .i64 (r.1), .own 0 0, .own 1 0]) ⟨[], [some ⟨37, r.2.1, 0⟩, some ⟨84, r.2.2, 0⟩]⟩ = some () → LP_46_0 k x0 x1 x2 x3 x4 x5 x6 x7 = some ()
theorem L_46 (N : Nat) : S_46_0 N := by
 induction N using Nat.strongRecOn with | _ N0 ih =>
 skip
 intro k x0 x1 x2 x3 x4 x5 x6 x7 r h hk
 rcases N0 with _ | N
 · cases h
 first | rw [spec_CertFold.l0] at h | simp only [spec_CertFold.l0] at h | (unfold spec_CertFold.l0 at h; dsimp only at h)
 refine loop_fold mC_46 mD_46 ?_
 refine (w_46_0 k x0 x1 x2 x3 x4 x5 x6 x7).trans ?_
 refine br_eti h rfl (fun c17 h => ?_) (fun c17 h => ?_)
 ·cases h; exact hk
 refine br_g h rfl (fun c18 h => ?_)
 refine br_t (by first | (simp [c17]; done) | (simp; omega) | (simp_all; done)) ?_
 refine call_h N h (fun t1 e19 h => ?_)
 refine br_etn h (congrArg not dect) (fun c20 h => ?_) (fun c20 h => ?_)
 ·cases h; exact hk
 refine br_t (by first | (simp [c18]; done) | (simp; omega) | (simp_all; done)) ?_
 refine br_t (by first | (simp [c17]; done) | (simp; omega) | (simp_all; done)) ?_
 refine andA_of ?_ ?_
 ·refine call_h N h (fun t2 e21 h => ?_)
  exact (ih N (by omega)) _ _ _ _ _ _ _ _ _ _ h hk
 refine call_h N h (fun t3 e22 h => ?_)
 exact (ih N (by omega)) _ _ _ _ _ _ _ _ _ _ h hk
theorem okc_46 (args : List (AV tau)) (m : Mem tau) (κ : AV tau → Mem tau → Option Unit) (hh : c_46 args m κ = some ()) : ∃ av m1, κ av m1 = some () ∧ ToldA Try.prog TT (pnT 46) 46 args m av m1 := by
 obtain ⟨bx_, rw_⟩ := m
 unfold c_46 at hh
 simp only at hh
 split at hh
 case h_2 => cases hh
 rename_i b0
 obtain ⟨l0, hx0, hh0⟩ := bO_some hh
 have ex0 := asSl_some hx0
 subst ex0
 obtain ⟨N, t, h, hκ⟩ := callX_some hh0
 refine ⟨_, _, hκ, told_of_run pq okC_46 (fun _ _ _ => drawA_ok pq okC_46 hmix) (E := E_46) (fn := Try.f46) (body := B_46) (by kernel_rfl) (by kernel_rfl) (by kernel_rfl) (by rfl) (by exact Nat.le_of_ble_eq_true rfl) (fun k hk => ?_)⟩
 refine (w_46 l0 k).trans ?_
 replace h : spec_CertFold.f N l0 = some t := h
 unfold spec_CertFold.f at h
 refine call_h 0 h (fun t0 e23 h => ?_)
 refine br_eti h rfl (fun c24 h => ?_) (fun c24 h => ?_)
 ·exact (L_46 N) _ _ _ _ _ _ _ _ _ _ h hk
 cases h; exact hk
noncomputable def C_168 : Ctr tau Unit := ctrS 46 c_46 C_46
noncomputable def D_168 : Drw tau := drawA E_168 C_168
theorem okC_168 : CtrOk Try.prog TT pnT C_168 := ctrS_ok okC_46 okc_46
theorem mC_168 : CtrMono C_168 := ctrS_mono mC_46 mc_46
theorem mD_168 : DrMono D_168 := drawA_mono mC_168
noncomputable def B_168 : Code := Try.f168.body.getD .skip
theorem mc_168 (args : List (AV tau)) (m : Mem tau) (k k' : AV tau → Mem tau → Option Unit) (hk : ∀ av m, k av m = some () → k' av m = some ()) (h : c_168 args m k = some ()) : c_168 args m k' = some () := by
 unfold c_168 at h ⊢
 split at h
 · repeat' first | exact callX_mono (fun _ h => hk _ _ h) h | refine bO_mono (fun _ h => ?_) h
 · cases h
theorem w_168 (a0 : Int) (k : AV tau → Mem tau → Option Unit) : fnA E_168 C_168 D_168 Try.f168 B_168 [.int .i64 a0] ⟨[], []⟩ k = (callX (fun n => impl_in.f a0 (0 : Int) (3 : Int)) fun t0 => k (.bool t0) ⟨[], []⟩ : Option Unit) := by kernel_rfl
theorem okc_168 (args : List (AV tau)) (m : Mem tau) (κ : AV tau → Mem tau → Option Unit) (hh : c_168 args m κ = some ()) : ∃ av m1, κ av m1 = some () ∧ ToldA Try.prog TT (pnT 168) 168 args m av m1 := by
 obtain ⟨bx_, rw_⟩ := m
 unfold c_168 at hh
 simp only at hh
 split at hh
 case h_2 => cases hh
 rename_i b0
 obtain ⟨a0, hx0, hh0⟩ := bO_some hh
 have ex0 := asI_some hx0
 subst ex0
 obtain ⟨N, t, h, hκ⟩ := callX_some hh0
 refine ⟨_, _, hκ, told_of_run pq okC_168 (fun _ _ _ => drawA_ok pq okC_168 hmix) (E := E_168) (fn := Try.f168) (body := B_168) (by kernel_rfl) (by kernel_rfl) (by kernel_rfl) (by rfl) (by exact Nat.le_of_ble_eq_true rfl) (fun k hk => ?_)⟩
 refine (w_168 a0 k).trans ?_
 replace h : impl_insOk_1.f a0 = some t := h
 unfold impl_insOk_1.f at h
 refine call_h 0 h (fun t0 e2 h => ?_)
 cases h; exact hk
noncomputable def C_169 : Ctr tau Unit := ctrS 168 c_168 C_168
noncomputable def D_169 : Drw tau := drawA E_169 C_169
theorem okC_169 : CtrOk Try.prog TT pnT C_169 := ctrS_ok okC_168 okc_168
theorem mC_169 : CtrMono C_169 := ctrS_mono mC_168 mc_168
theorem mD_169 : DrMono D_169 := drawA_mono mC_169
noncomputable def B_169 : Code := Try.f169.body.getD .skip
theorem mc_169 (args : List (AV tau)) (m : Mem tau) (k k' : AV tau → Mem tau → Option Unit) (hk : ∀ av m, k av m = some () → k' av m = some ()) (h : c_169 args m k = some ()) : c_169 args m k' = some () := by
 unfold c_169 at h ⊢
 split at h
 · repeat' first | exact callX_mono (fun _ h => hk _ _ h) h | refine bO_mono (fun _ h => ?_) h
 · cases h
theorem w_169 (a0 : Int) (k : AV tau → Mem tau → Option Unit) : fnA E_169 C_169 D_169 Try.f169 B_169 [.int .i64 a0] ⟨[], []⟩ k = (callX (fun n => impl_in.f a0 (0 : Int) (3 : Int)) fun t0 => k (.bool t0) ⟨[], []⟩ : Option Unit) := by kernel_rfl
theorem okc_169 (args : List (AV tau)) (m : Mem tau) (κ : AV tau → Mem tau → Option Unit) (hh : c_169 args m κ = some ()) : ∃ av m1, κ av m1 = some () ∧ ToldA Try.prog TT (pnT 169) 169 args m av m1 := by
 obtain ⟨bx_, rw_⟩ := m
 unfold c_169 at hh
 simp only at hh
 split at hh
 case h_2 => cases hh
 rename_i b0
 obtain ⟨a0, hx0, hh0⟩ := bO_some hh
 have ex0 := asI_some hx0
 subst ex0
 obtain ⟨N, t, h, hκ⟩ := callX_some hh0
 refine ⟨_, _, hκ, told_of_run pq okC_169 (fun _ _ _ => drawA_ok pq okC_169 hmix) (E := E_169) (fn := Try.f169) (body := B_169) (by kernel_rfl) (by kernel_rfl) (by kernel_rfl) (by rfl) (by exact Nat.le_of_ble_eq_true rfl) (fun k hk => ?_)⟩
 refine (w_169 a0 k).trans ?_
 replace h : impl_insOk_2.f a0 = some t := h
 unfold impl_insOk_2.f at h
 refine call_h 0 h (fun t0 e2 h => ?_)
 cases h; exact hk
noncomputable def C_151 : Ctr tau Unit := ctrS 169 c_169 C_169
noncomputable def D_151 : Drw tau := drawA E_151 C_151
theorem okC_151 : CtrOk Try.prog TT pnT C_151 := ctrS_ok okC_169 okc_169
theorem mC_151 : CtrMono C_151 := ctrS_mono mC_169 mc_169
theorem mD_151 : DrMono D_151 := drawA_mono mC_151
noncomputable def B_151 : Code := Try.f151.body.getD .skip
theorem mc_151 (args : List (AV tau)) (m : Mem tau) (k k' : AV tau → Mem tau → Option Unit) (hk : ∀ av m, k av m = some () → k' av m = some ()) (h : c_151 args m k = some ()) : c_151 args m k' = some () := by
 unfold c_151 at h ⊢
 split at h
 · repeat' first | exact callX_mono (fun _ h => hk _ _ h) h | refine bO_mono (fun _ h => ?_) h
 · cases h
theorem w_151 (a0_0 : Int) (a0_1 : Int) (a0_2 : Int) (a0_3 : Int) (k : AV tau → Mem tau → Option Unit) : fnA E_151 C_151 D_151 Try.f151 B_151 [.agg [.int .i64 a0_0, .int .i64 a0_1, .int .i64 a0_2, .int .i64 a0_3]] ⟨[], []⟩ k = (brA (decide (a0_0 = (1 : Int))) (callX (fun n => impl_insOk_1.f a0_1) fun t0 => brA t0 (callX (fun n => impl_insOk_2.f a0_2) fun t1 => brA t1 (k (.bool (decide (a0_3 = (0 : Int)))) ⟨[], []⟩) (k (.bool false) ⟨[], []⟩)) (k (.bool false) ⟨[], []⟩)) (brA (decide (a0_0 = (2 : Int))) (callX (fun n => impl_insOk_2.f a0_1) fun t2 => brA t2 (callX (fun n => impl_insOk_1.f a0_2) fun t3 => brA t3 (k (.bool (decide (a0_3 = (0 : Int)))) ⟨[], []⟩) (k (.bool false) ⟨[], []⟩)) (k (.bool false) ⟨[], []⟩)) (brA (decide (a0_0 = (3 : Int))) (callX (fun n => impl_insOk_1.f a0_1) fun t4 => brA t4 (brA (decide (a0_2 = (0 : Int))) (callX (fun n => impl_in.f a0_3 (-(1000000 : Int)) (1000000 : Int)) fun t5 => k (.bool t5) ⟨[], []⟩) (k (.bool false) ⟨[], []⟩)) (k (.bool false) ⟨[], []⟩)) (brA (decide (a0_0 = (4 : Int))) (brA (decide (a0_0 = (4 : Int))) (callX (fun n => impl_insOk_1.f a0_1) fun t6 => brA t6 (callX (fun n => impl_insOk_1.f a0_2) fun t7 => brA t7 (k (.bool (decide (a0_3 = (0 : Int)))) ⟨[], []⟩) (k (.bool false) ⟨[], []⟩)) (k (.bool false) ⟨[], []⟩)) (brA (decide (a0_0 = (6 : Int))) (callX (fun n => impl_insOk_1.f a0_1) fun t8 => brA t8 (callX (fun n => impl_insOk_1.f a0_2) fun t9 => brA t9 (callX (fun n => impl_in.f a0_3 (1 : Int) (10 : Int)) fun t10 => k (.bool t10) ⟨[], []⟩) (k (.bool false) ⟨[], []⟩)) (k (.bool false) ⟨[], []⟩)) (brA (decide (a0_0 = (7 : Int))) (brA (decide (a0_1 = (0 : Int))) (brA (decide (a0_2 = (0 : Int))) (k (.bool (decide (a0_3 = (0 : Int)))) ⟨[], []⟩) (k (.bool false) ⟨[], []⟩)) (k (.bool false) ⟨[], []⟩)) (k (.bool false) ⟨[], []⟩)))) (brA (decide (a0_0 = (5 : Int))) (callX (fun n => impl_insOk_1.f a0_1) fun t11 => brA t11 (callX (fun n => impl_insOk_1.f a0_2) fun t12 => brA t12 (k (.bool (decide (a0_3 = (0 : Int)))) ⟨[], []⟩) (k (.bool false) ⟨[], []⟩)) (k (.bool false) ⟨[], []⟩)) (brA (decide (a0_0 = (6 : Int))) (callX (fun n => impl_insOk_1.f a0_1) fun t13 => brA t13 (callX (fun n => impl_insOk_1.f a0_2) fun t14 => brA t14 (callX (fun n => impl_in.f a0_3 (1 : Int) (10 : Int)) fun t15 => k (.bool t15) ⟨[], []⟩) (k (.bool false) ⟨[], []⟩)) (k (.bool false) ⟨[], []⟩)) (brA (decide (a0_0 = (7 : Int))) (brA (decide (a0_1 = (0 : Int))) (brA (decide (a0_2 = (0 : Int))) (k (.bool (decide (a0_3 = (0 : Int)))) ⟨[], []⟩) (k (.bool false) ⟨[], []⟩)) (k (.bool false) ⟨[], []⟩)) (k (.bool false) ⟨[], []⟩))))))) : Option Unit) := by kernel_rfl
theorem okc_151 (args : List (AV tau)) (m : Mem tau) (κ : AV tau → Mem tau → Option Unit) (hh : c_151 args m κ = some ()) : ∃ av m1, κ av m1 = some () ∧ ToldA Try.prog TT (pnT 151) 151 args m av m1 := by
 obtain ⟨bx_, rw_⟩ := m
 unfold c_151 at hh
 simp only at hh
 split at hh
 case h_2 => cases hh
 rename_i b0 b1 b2 b3
 obtain ⟨a0_0, hx0, hh0⟩ := bO_some hh
 obtain ⟨a0_1, hx1, hh1⟩ := bO_some hh0
 obtain ⟨a0_2, hx2, hh2⟩ := bO_some hh1
 obtain ⟨a0_3, hx3, hh3⟩ := bO_some hh2
 have ex0 := asI_some hx0
 have ex1 := asI_some hx1
 have ex2 := asI_some hx2
 have ex3 := asI_some hx3
 subst ex0 ex1 ex2 ex3
 obtain ⟨N, t, h, hκ⟩ := callX_some hh3
 refine ⟨_, _, hκ, told_of_run pq okC_151 (fun _ _ _ => drawA_ok pq okC_151 hmix) (E := E_151) (fn := Try.f151) (body := B_151) (by kernel_rfl) (by kernel_rfl) (by kernel_rfl) (by rfl) (by exact Nat.le_of_ble_eq_true rfl) (fun k hk => ?_)⟩
 refine (w_151 a0_0 a0_1 a0_2 a0_3 k).trans ?_
 replace h : impl_insOk.f N a0_0 a0_1 a0_2 a0_3 = some t := h
 unfold impl_insOk.f at h
 refine br_ite h rfl (fun c45 h => ?_) (fun c45 h => ?_)
 ·refine call_h 0 h (fun t0 e46 h => ?_)
  refine br_eti h dect (fun c47 h => ?_) (fun c47 h => ?_)
  ·cases h; exact hk
  refine call_h 0 h (fun t1 e48 h => ?_)
  refine br_eti h dect (fun c49 h => ?_) (fun c49 h => ?_)
  ·cases h; exact hk
  cases h; exact hk
 refine br_ite h rfl (fun c50 h => ?_) (fun c50 h => ?_)
 ·refine call_h 0 h (fun t2 e51 h => ?_)
  refine br_eti h dect (fun c52 h => ?_) (fun c52 h => ?_)
  ·cases h; exact hk
  refine call_h 0 h (fun t3 e53 h => ?_)
  refine br_eti h dect (fun c54 h => ?_) (fun c54 h => ?_)
  ·cases h; exact hk
  cases h; exact hk
 refine br_ite h rfl (fun c55 h => ?_) (fun c55 h => ?_)
 ·refine call_h 0 h (fun t4 e56 h => ?_)
  refine br_eti h dect (fun c57 h => ?_) (fun c57 h => ?_)
  ·cases h; exact hk
  refine br_eti h rfl (fun c58 h => ?_) (fun c58 h => ?_)
  ·cases h; exact hk
  refine call_h 0 h (fun t5 e59 h => ?_)
  cases h; exact hk
 refine br_ite h rfl (fun c60 h => ?_) (fun c60 h => ?_)
 ·rcases N with _ | N
  · cases h
  first | rw [impl_insOk.j0] at h | simp only [impl_insOk.j0] at h | (unfold impl_insOk.j0 at h; dsimp only at h)
  refine br_ite h (by first | rfl | exact dect | exact (congrArg not dect) | (simp; done) | (simp [beqI]; done) | (simp; omega)) (fun c61 h => ?_) (fun c61 h => ?_)
  ·refine call_h 0 h (fun t6 e62 h => ?_)
   refine br_eti h dect (fun c63 h => ?_) (fun c63 h => ?_)
   ·cases h; exact hk
   refine call_h 0 h (fun t7 e64 h => ?_)
   refine br_eti h dect (fun c65 h => ?_) (fun c65 h => ?_)
   ·cases h; exact hk
   cases h; exact hk
  refine br_eti h rfl (fun c66 h => ?_) (fun c66 h => ?_)
  ·refine br_eti h rfl (fun c67 h => ?_) (fun c67 h => ?_)
   ·cases h; exact hk
   refine br_eti h rfl (fun c68 h => ?_) (fun c68 h => ?_)
   ·cases h; exact hk
   refine br_eti h rfl (fun c69 h => ?_) (fun c69 h => ?_)
   ·cases h; exact hk
   cases h; exact hk
  refine call_h 0 h (fun t8 e70 h => ?_)
  refine br_eti h dect (fun c71 h => ?_) (fun c71 h => ?_)
  ·cases h; exact hk
  refine call_h 0 h (fun t9 e72 h => ?_)
  refine br_eti h dect (fun c73 h => ?_) (fun c73 h => ?_)
  ·cases h; exact hk
  refine call_h 0 h (fun t10 e74 h => ?_)
  cases h; exact hk
 rcases N with _ | N
 · cases h
 first | rw [impl_insOk.j0] at h | simp only [impl_insOk.j0] at h | (unfold impl_insOk.j0 at h; dsimp only at h)
 refine br_ite h (by first | rfl | exact dect | exact (congrArg not dect) | (simp; done) | (simp [beqI]; done) | (simp; omega)) (fun c75 h => ?_) (fun c75 h => ?_)
 ·refine call_h 0 h (fun t11 e76 h => ?_)
  refine br_eti h dect (fun c77 h => ?_) (fun c77 h => ?_)
  ·cases h; exact hk
  refine call_h 0 h (fun t12 e78 h => ?_)
  refine br_eti h dect (fun c79 h => ?_) (fun c79 h => ?_)
  ·cases h; exact hk
  cases h; exact hk
 refine br_eti h rfl (fun c80 h => ?_) (fun c80 h => ?_)
 ·refine br_eti h rfl (fun c81 h => ?_) (fun c81 h => ?_)
  ·cases h; exact hk
  refine br_eti h rfl (fun c82 h => ?_) (fun c82 h => ?_)
  ·cases h; exact hk
  refine br_eti h rfl (fun c83 h => ?_) (fun c83 h => ?_)
  ·cases h; exact hk
  cases h; exact hk
 refine call_h 0 h (fun t13 e84 h => ?_)
 refine br_eti h dect (fun c85 h => ?_) (fun c85 h => ?_)
 ·cases h; exact hk
 refine call_h 0 h (fun t14 e86 h => ?_)
 refine br_eti h dect (fun c87 h => ?_) (fun c87 h => ?_)
 ·cases h; exact hk
 refine call_h 0 h (fun t15 e88 h => ?_)
 cases h; exact hk
noncomputable def C_102 : Ctr tau Unit := ctrS 151 c_151 C_151
noncomputable def D_102 : Drw tau := drawA E_102 C_102
theorem okC_102 : CtrOk Try.prog TT pnT C_102 := ctrS_ok okC_151 okc_151
theorem mC_102 : CtrMono C_102 := ctrS_mono mC_151 mc_151
theorem mD_102 : DrMono D_102 := drawA_mono mC_102
noncomputable def B_102 : Code := Try.f102.body.getD .skip
theorem mc_102 (args : List (AV tau)) (m : Mem tau) (k k' : AV tau → Mem tau → Option Unit) (hk : ∀ av m, k av m = some () → k' av m = some ()) (h : c_102 args m k = some ()) : c_102 args m k' = some () := by
 unfold c_102 at h ⊢
 split at h
 · repeat' first | exact callX_mono (fun _ h => hk _ _ h) h | refine bO_mono (fun _ h => ?_) h
 · cases h
noncomputable def K_102_0 (k : AV tau → Mem tau → Option Unit) : Kon tau := (kBlock 0 (kS E_102 C_102 D_102 (codeP B_102 [1, 1]) (kEnd E_102 Try.f102 k)))
def st_102_0 (x0 : (List S95)) (x1 : (List S95)) (x2 : Int) (x3 : Int) : St tau := ⟨tmL 18 0 [(0, .sl 95 x0), (5, .sl 95 x1), (6, .int .i64 x2), (7, .int .i64 x3)], ⟨[], []⟩⟩
noncomputable def LP_102_0 (k : AV tau → Mem tau → Option Unit) (x0 : (List S95)) (x1 : (List S95)) (x2 : Int) (x3 : Int) : Option Unit := loopA E_102 (codeA E_102 C_102 D_102 (codeP B_102 [1, 0, 1, 0, 0])) (codeP B_102 [1, 0, 1, 0, 0]) (K_102_0 k) (st_102_0 x0 x1 x2 x3)
theorem w_102_0 (k : AV tau → Mem tau → Option Unit) (x0 : (List S95)) (x1 : (List S95)) (x2 : Int) (x3 : Int) : codeA E_102 C_102 D_102 (codeP B_102 [1, 0, 1, 0, 0]) (kL E_102 C_102 D_102 (codeP B_102 [1, 0, 1, 0, 0]) (K_102_0 k)) (st_102_0 x0 x1 x2 x3) = (brA (decide (x3 < x2)) (brA (decide ((0 : Int) ≤ x3)) (brA (decide (x3 < ((x1.length : Nat) : Int))) (callX (fun n => impl_insOk.f n ((rd_T95 x1 x3).f0) ((rd_T95 x1 x3).f1) ((rd_T95 x1 x3).f2) ((rd_T95 x1 x3).f3)) fun t0 => brA (!t0) (k (.bool false) ⟨[], []⟩) (LP_102_0 k x0 x1 x2 (wrap64 (x3 + (1 : Int))))) (none)) (none)) (k (.bool (decide (((x0.length : Nat) : Int) ≤ (10 : Int)))) ⟨[], []⟩) : Option Unit) := by kernel_rfl
theorem w_102 (l0 : List S95) (k : AV tau → Mem tau → Option Unit) : fnA E_102 C_102 D_102 Try.f102 B_102 [.sl 95 l0] ⟨[], []⟩ k = (LP_102_0 k l0 l0 ((l0.length : Nat) : Int) (0 : Int) : Option Unit) := by kernel_rfl
def S_102_0 (N : Nat) : Prop := ∀ (k : AV tau → Mem tau → Option Unit) (x0 : (List S95)) (x1 : (List S95)) (x2 : Int) (x3 : Int) (r : Bool), impl_ProgOk.l0 N (x0) (x1) (x2) (x3) = some r → k (.bool (r)) ⟨[], []⟩ = some () → LP_102_0 k x0 x1 x2 x3 = some ()
theorem L_102 (N : Nat) : S_102_0 N := by
 induction N using Nat.strongRecOn with | _ N0 ih =>
 skip
 intro k x0 x1 x2 x3 r h hk
 rcases N0 with _ | N
 · cases h
 first | rw [impl_ProgOk.l0] at h | simp only [impl_ProgOk.l0] at h | (unfold impl_ProgOk.l0 at h; dsimp only at h)
 refine loop_fold mC_102 mD_102 ?_
 refine (w_102_0 k x0 x1 x2 x3).trans ?_
 refine br_eti h rfl (fun c11 h => ?_) (fun c11 h => ?_)
 ·cases h; exact hk
 refine br_g h rfl (fun c12 h => ?_)
 refine br_g h rfl (fun c13 h => ?_)
 refine call_h N h (fun t0 e14 h => ?_)
 refine br_etn h (congrArg not dect) (fun c15 h => ?_) (fun c15 h => ?_)
 ·cases h; exact hk
 exact (ih N (by omega)) _ _ _ _ _ _ h hk
theorem okc_102 (args : List (AV tau)) (m : Mem tau) (κ : AV tau → Mem tau → Option Unit) (hh : c_102 args m κ = some ()) : ∃ av m1, κ av m1 = some () ∧ ToldA Try.prog TT (pnT 102) 102 args m av m1 := by
 obtain ⟨bx_, rw_⟩ := m
 unfold c_102 at hh
 simp only at hh
 split at hh
 case h_2 => cases hh
 rename_i b0
 obtain ⟨l0, hx0, hh0⟩ := bO_some hh
 have ex0 := asSl_some hx0
 subst ex0
 obtain ⟨N, t, h, hκ⟩ := callX_some hh0
 refine ⟨_, _, hκ, told_of_run pq okC_102 (fun _ _ _ => drawA_ok pq okC_102 hmix) (E := E_102) (fn := Try.f102) (body := B_102) (by kernel_rfl) (by kernel_rfl) (by kernel_rfl) (by rfl) (by exact Nat.le_of_ble_eq_true rfl) (fun k hk => ?_)⟩
 refine (w_102 l0 k).trans ?_
 replace h : impl_ProgOk.f N l0 = some t := h
 unfold impl_ProgOk.f at h
 exact (L_102 N) _ _ _ _ _ _ h hk
noncomputable def C_126 : Ctr tau Unit := ctrS 102 c_102 C_102
noncomputable def D_126 : Drw tau := drawA E_126 C_126
theorem okC_126 : CtrOk Try.prog TT pnT C_126 := ctrS_ok okC_102 okc_102
theorem mC_126 : CtrMono C_126 := ctrS_mono mC_102 mc_102
theorem mD_126 : DrMono D_126 := drawA_mono mC_126
noncomputable def B_126 : Code := Try.f126.body.getD .skip
theorem mc_126 (args : List (AV tau)) (m : Mem tau) (k k' : AV tau → Mem tau → Option Unit) (hk : ∀ av m, k av m = some () → k' av m = some ()) (h : c_126 args m k = some ()) : c_126 args m k' = some () := by
 unfold c_126 at h ⊢
 split at h
 · repeat' first | exact callX_mono (fun _ h => hk _ _ h) h | refine bO_mono (fun _ h => ?_) h
 · cases h
noncomputable def K_126_0 (k : AV tau → Mem tau → Option Unit) : Kon tau := (kBlock 0 (kS E_126 C_126 D_126 (codeP B_126 [1, 1]) (kEnd E_126 Try.f126 k)))
def st_126_0 (x0 : Int) (x1 : (List S82)) (x2 : Int) (x3 : Int) : St tau := ⟨tmL 21 0 [(1, .int .i64 x0), (8, .sl 82 x1), (9, .int .i64 x2), (10, .int .i64 x3)], ⟨[], []⟩⟩
noncomputable def LP_126_0 (k : AV tau → Mem tau → Option Unit) (x0 : Int) (x1 : (List S82)) (x2 : Int) (x3 : Int) : Option Unit := loopA E_126 (codeA E_126 C_126 D_126 (codeP B_126 [1, 0, 1, 0, 0])) (codeP B_126 [1, 0, 1, 0, 0]) (K_126_0 k) (st_126_0 x0 x1 x2 x3)
theorem w_126_0 (k : AV tau → Mem tau → Option Unit) (x0 : Int) (x1 : (List S82)) (x2 : Int) (x3 : Int) : codeA E_126 C_126 D_126 (codeP B_126 [1, 0, 1, 0, 0]) (kL E_126 C_126 D_126 (codeP B_126 [1, 0, 1, 0, 0]) (K_126_0 k)) (st_126_0 x0 x1 x2 x3) = (brA (decide (x3 < x2)) (brA (decide ((0 : Int) ≤ x3)) (brA (decide (x3 < ((x1.length : Nat) : Int))) (brA (decide ((rd_T82 x1 x3).f0 = x0)) (k (.int .i64 x3) ⟨[], []⟩) (LP_126_0 k x0 x1 x2 (wrap64 (x3 + (1 : Int))))) (none)) (none)) (k (.int .i64 (-(1 : Int))) ⟨[], []⟩) : Option Unit) := by kernel_rfl
theorem w_126 (l0_0 : List S39) (l0_1 : List S82) (a0_2 : Int) (a0_3 : Int) (a1 : Int) (k : AV tau → Mem tau → Option Unit) : fnA E_126 C_126 D_126 Try.f126 B_126 [.agg [.sl 39 l0_0, .sl 82 l0_1, .int .i64 a0_2, .int .i64 a0_3], .int .i64 a1] ⟨[], []⟩ k = (LP_126_0 k a1 l0_1 ((l0_1.length : Nat) : Int) (0 : Int) : Option Unit) := by kernel_rfl
def S_126_0 (N : Nat) : Prop := ∀ (k : AV tau → Mem tau → Option Unit) (x0 : Int) (x1 : (List S82)) (x2 : Int) (x3 : Int) (r : Int), impl_putAt.l0 N (x0) (x1) (x2) (x3) = some r → k (.int .i64 (r)) ⟨[], []⟩ = some () → LP_126_0 k x0 x1 x2 x3 = some ()
theorem L_126 (N : Nat) : S_126_0 N := by
 induction N using Nat.strongRecOn with | _ N0 ih =>
 skip
 intro k x0 x1 x2 x3 r h hk
 rcases N0 with _ | N
 · cases h
 first | rw [impl_putAt.l0] at h | simp only [impl_putAt.l0] at h | (unfold impl_putAt.l0 at h; dsimp only at h)
 refine loop_fold mC_126 mD_126 ?_
 refine (w_126_0 k x0 x1 x2 x3).trans ?_
 refine br_eti h rfl (fun c9 h => ?_) (fun c9 h => ?_)
 ·cases h; exact hk
 refine br_g h rfl (fun c10 h => ?_)
 refine br_g h rfl (fun c11 h => ?_)
 refine br_ite h rfl (fun c12 h => ?_) (fun c12 h => ?_)
 ·cases h; exact hk
 exact (ih N (by omega)) _ _ _ _ _ _ h hk
theorem okc_126 (args : List (AV tau)) (m : Mem tau) (κ : AV tau → Mem tau → Option Unit) (hh : c_126 args m κ = some ()) : ∃ av m1, κ av m1 = some () ∧ ToldA Try.prog TT (pnT 126) 126 args m av m1 := by
 obtain ⟨bx_, rw_⟩ := m
 unfold c_126 at hh
 simp only at hh
 split at hh
 case h_2 => cases hh
 rename_i b0 b1 b2 b3 b4
 obtain ⟨l0_0, hx0, hh0⟩ := bO_some hh
 obtain ⟨l0_1, hx1, hh1⟩ := bO_some hh0
 obtain ⟨a0_2, hx2, hh2⟩ := bO_some hh1
 obtain ⟨a0_3, hx3, hh3⟩ := bO_some hh2
 obtain ⟨a1, hx4, hh4⟩ := bO_some hh3
 have ex0 := asSl_some hx0
 have ex1 := asSl_some hx1
 have ex2 := asI_some hx2
 have ex3 := asI_some hx3
 have ex4 := asI_some hx4
 subst ex0 ex1 ex2 ex3 ex4
 obtain ⟨N, t, h, hκ⟩ := callX_some hh4
 refine ⟨_, _, hκ, told_of_run pq okC_126 (fun _ _ _ => drawA_ok pq okC_126 hmix) (E := E_126) (fn := Try.f126) (body := B_126) (by kernel_rfl) (by kernel_rfl) (by kernel_rfl) (by rfl) (by exact Nat.le_of_ble_eq_true rfl) (fun k hk => ?_)⟩
 refine (w_126 l0_0 l0_1 a0_2 a0_3 a1 k).trans ?_
 replace h : impl_putAt.f N l0_0 l0_1 a0_2 a0_3 a1 = some t := h
 unfold impl_putAt.f at h
 exact (L_126 N) _ _ _ _ _ _ h hk
noncomputable def C_127 : Ctr tau Unit := ctrS 126 c_126 C_126
noncomputable def D_127 : Drw tau := drawA E_127 C_127
theorem okC_127 : CtrOk Try.prog TT pnT C_127 := ctrS_ok okC_126 okc_126
theorem mC_127 : CtrMono C_127 := ctrS_mono mC_126 mc_126
theorem mD_127 : DrMono D_127 := drawA_mono mC_127
noncomputable def B_127 : Code := Try.f127.body.getD .skip
theorem mc_127 (args : List (AV tau)) (m : Mem tau) (k k' : AV tau → Mem tau → Option Unit) (hk : ∀ av m, k av m = some () → k' av m = some ()) (h : c_127 args m k = some ()) : c_127 args m k' = some () := by
 unfold c_127 at h ⊢
 split at h
 · repeat' first | exact callX_mono (fun _ h => hk _ _ h) h | refine bO_mono (fun _ h => ?_) h
 · cases h
noncomputable def K_127_0 (k : AV tau → Mem tau → Option Unit) : Kon tau := (kBlock 0 (kS E_127 C_127 D_127 (codeP B_127 [1, 1]) (kEnd E_127 Try.f127 k)))
def st_127_0 (x0 : Int) (x1 : (List S39)) (x2 : Int) (x3 : Int) : St tau := ⟨tmL 21 0 [(1, .int .i64 x0), (8, .sl 39 x1), (9, .int .i64 x2), (10, .int .i64 x3)], ⟨[], []⟩⟩
noncomputable def LP_127_0 (k : AV tau → Mem tau → Option Unit) (x0 : Int) (x1 : (List S39)) (x2 : Int) (x3 : Int) : Option Unit := loopA E_127 (codeA E_127 C_127 D_127 (codeP B_127 [1, 0, 1, 0, 0])) (codeP B_127 [1, 0, 1, 0, 0]) (K_127_0 k) (st_127_0 x0 x1 x2 x3)
theorem w_127_0 (k : AV tau → Mem tau → Option Unit) (x0 : Int) (x1 : (List S39)) (x2 : Int) (x3 : Int) : codeA E_127 C_127 D_127 (codeP B_127 [1, 0, 1, 0, 0]) (kL E_127 C_127 D_127 (codeP B_127 [1, 0, 1, 0, 0]) (K_127_0 k)) (st_127_0 x0 x1 x2 x3) = (brA (decide (x3 < x2)) (brA (decide ((0 : Int) ≤ x3)) (brA (decide (x3 < ((x1.length : Nat) : Int))) (brA (decide ((rd_T39 x1 x3).f0 = x0)) (k (.int .i64 x3) ⟨[], []⟩) (LP_127_0 k x0 x1 x2 (wrap64 (x3 + (1 : Int))))) (none)) (none)) (k (.int .i64 (-(1 : Int))) ⟨[], []⟩) : Option Unit) := by kernel_rfl
theorem w_127 (l0_0 : List S39) (l0_1 : List S82) (a0_2 : Int) (a0_3 : Int) (a1 : Int) (k : AV tau → Mem tau → Option Unit) : fnA E_127 C_127 D_127 Try.f127 B_127 [.agg [.sl 39 l0_0, .sl 82 l0_1, .int .i64 a0_2, .int .i64 a0_3], .int .i64 a1] ⟨[], []⟩ k = (LP_127_0 k a1 l0_0 ((l0_0.length : Nat) : Int) (0 : Int) : Option Unit) := by kernel_rfl
def S_127_0 (N : Nat) : Prop := ∀ (k : AV tau → Mem tau → Option Unit) (x0 : Int) (x1 : (List S39)) (x2 : Int) (x3 : Int) (r : Int), impl_readAt.l0 N (x0) (x1) (x2) (x3) = some r → k (.int .i64 (r)) ⟨[], []⟩ = some () → LP_127_0 k x0 x1 x2 x3 = some ()
theorem L_127 (N : Nat) : S_127_0 N := by
 induction N using Nat.strongRecOn with | _ N0 ih =>
 skip
 intro k x0 x1 x2 x3 r h hk
 rcases N0 with _ | N
 · cases h
 first | rw [impl_readAt.l0] at h | simp only [impl_readAt.l0] at h | (unfold impl_readAt.l0 at h; dsimp only at h)
 refine loop_fold mC_127 mD_127 ?_
 refine (w_127_0 k x0 x1 x2 x3).trans ?_
 refine br_eti h rfl (fun c9 h => ?_) (fun c9 h => ?_)
 ·cases h; exact hk
 refine br_g h rfl (fun c10 h => ?_)
 refine br_g h rfl (fun c11 h => ?_)
 refine br_ite h rfl (fun c12 h => ?_) (fun c12 h => ?_)
 ·cases h; exact hk
 exact (ih N (by omega)) _ _ _ _ _ _ h hk
theorem okc_127 (args : List (AV tau)) (m : Mem tau) (κ : AV tau → Mem tau → Option Unit) (hh : c_127 args m κ = some ()) : ∃ av m1, κ av m1 = some () ∧ ToldA Try.prog TT (pnT 127) 127 args m av m1 := by
 obtain ⟨bx_, rw_⟩ := m
 unfold c_127 at hh
 simp only at hh
 split at hh
 case h_2 => cases hh
 rename_i b0 b1 b2 b3 b4
 obtain ⟨l0_0, hx0, hh0⟩ := bO_some hh
 obtain ⟨l0_1, hx1, hh1⟩ := bO_some hh0
 obtain ⟨a0_2, hx2, hh2⟩ := bO_some hh1
 obtain ⟨a0_3, hx3, hh3⟩ := bO_some hh2
 obtain ⟨a1, hx4, hh4⟩ := bO_some hh3
 have ex0 := asSl_some hx0
 have ex1 := asSl_some hx1
 have ex2 := asI_some hx2
 have ex3 := asI_some hx3
 have ex4 := asI_some hx4
 subst ex0 ex1 ex2 ex3 ex4
 obtain ⟨N, t, h, hκ⟩ := callX_some hh4
 refine ⟨_, _, hκ, told_of_run pq okC_127 (fun _ _ _ => drawA_ok pq okC_127 hmix) (E := E_127) (fn := Try.f127) (body := B_127) (by kernel_rfl) (by kernel_rfl) (by kernel_rfl) (by rfl) (by exact Nat.le_of_ble_eq_true rfl) (fun k hk => ?_)⟩
 refine (w_127 l0_0 l0_1 a0_2 a0_3 a1 k).trans ?_
 replace h : impl_readAt.f N l0_0 l0_1 a0_2 a0_3 a1 = some t := h
 unfold impl_readAt.f at h
 exact (L_127 N) _ _ _ _ _ _ h hk
noncomputable def C_128 : Ctr tau Unit := ctrS 127 c_127 C_127
noncomputable def D_128 : Drw tau := drawA E_128 C_128
theorem okC_128 : CtrOk Try.prog TT pnT C_128 := ctrS_ok okC_127 okc_127
theorem mC_128 : CtrMono C_128 := ctrS_mono mC_127 mc_127
theorem mD_128 : DrMono D_128 := drawA_mono mC_128
noncomputable def B_128 : Code := Try.f128.body.getD .skip
theorem mc_128 (args : List (AV tau)) (m : Mem tau) (k k' : AV tau → Mem tau → Option Unit) (hk : ∀ av m, k av m = some () → k' av m = some ()) (h : c_128 args m k = some ()) : c_128 args m k' = some () := by
 unfold c_128 at h ⊢
 split at h
 · repeat' first | exact callX_mono (fun _ h => hk _ _ h) h | refine bO_mono (fun _ h => ?_) h
 · cases h
theorem w_128 (l0 : List S39) (k : AV tau → Mem tau → Option Unit) : fnA E_128 C_128 D_128 Try.f128 B_128 [.sl 39 l0] ⟨[], []⟩ k = (brA (decide (((l0.length : Nat) : Int) = (0 : Int))) (k (.own 0 0) ⟨[], [some ⟨39, ([] : List S39), 0⟩]⟩) (brA (decide ((Int.toNat ((l0.length : Nat) : Int)) ≤ 17592186044416)) (k (.own 0 0) ⟨[], [some ⟨39, ((List.take ((List.replicate (Int.toNat ((l0.length : Nat) : Int)) (⟨(0 : Int), (0 : Int)⟩ : S39)).length) l0) ++ (List.drop l0.length (List.replicate (Int.toNat ((l0.length : Nat) : Int)) (⟨(0 : Int), (0 : Int)⟩ : S39)))), 0⟩]⟩) (none)) : Option Unit) := by kernel_rfl
theorem okc_128 (args : List (AV tau)) (m : Mem tau) (κ : AV tau → Mem tau → Option Unit) (hh : c_128 args m κ = some ()) : ∃ av m1, κ av m1 = some () ∧ ToldA Try.prog TT (pnT 128) 128 args m av m1 := by
 obtain ⟨bx_, rw_⟩ := m
 unfold c_128 at hh
 simp only at hh
 split at hh
 case h_2 => cases hh
 rename_i b0
 obtain ⟨l0, hx0, hh0⟩ := bO_some hh
 have ex0 := asSl_some hx0
 subst ex0
 obtain ⟨N, t, h, hκ⟩ := callX_some hh0
 refine ⟨_, _, hκ, told_of_run pq okC_128 (fun _ _ _ => drawA_ok pq okC_128 hmix) (E := E_128) (fn := Try.f128) (body := B_128) (by kernel_rfl) (by kernel_rfl) (by kernel_rfl) (by rfl) (by exact Nat.le_of_ble_eq_true rfl) (fun k hk => ?_)⟩
 refine (w_128 l0 k).trans ?_
 replace h : impl_copied_impl_Read.f l0 = some t := h
 unfold impl_copied_impl_Read.f at h
 refine ite_x h (fun c1 h => ?_) (fun _ h => by cases h)
 cases h
 exact copied_of (α := S39) l0 _ _ (k := fun q : List S39 => k (.own 0 0) ⟨[], [some ⟨39, q, 0⟩]⟩) c1 hk
noncomputable def C_129 : Ctr tau Unit := ctrS 128 c_128 C_128
noncomputable def D_129 : Drw tau := drawA E_129 C_129
theorem okC_129 : CtrOk Try.prog TT pnT C_129 := ctrS_ok okC_128 okc_128
theorem mC_129 : CtrMono C_129 := ctrS_mono mC_128 mc_128
theorem mD_129 : DrMono D_129 := drawA_mono mC_129
noncomputable def B_129 : Code := Try.f129.body.getD .skip
theorem mc_129 (args : List (AV tau)) (m : Mem tau) (k k' : AV tau → Mem tau → Option Unit) (hk : ∀ av m, k av m = some () → k' av m = some ()) (h : c_129 args m k = some ()) : c_129 args m k' = some () := by
 unfold c_129 at h ⊢
 split at h
 · repeat' first | exact callX_mono (fun _ h => hk _ _ h) h | refine bO_mono (fun _ h => ?_) h
 · cases h
theorem w_129 (l0 : List S82) (k : AV tau → Mem tau → Option Unit) : fnA E_129 C_129 D_129 Try.f129 B_129 [.sl 82 l0] ⟨[], []⟩ k = (brA (decide (((l0.length : Nat) : Int) = (0 : Int))) (k (.own 0 0) ⟨[], [some ⟨82, ([] : List S82), 0⟩]⟩) (brA (decide ((Int.toNat ((l0.length : Nat) : Int)) ≤ 17592186044416)) (k (.own 0 0) ⟨[], [some ⟨82, ((List.take ((List.replicate (Int.toNat ((l0.length : Nat) : Int)) (⟨(0 : Int), (0 : Int)⟩ : S82)).length) l0) ++ (List.drop l0.length (List.replicate (Int.toNat ((l0.length : Nat) : Int)) (⟨(0 : Int), (0 : Int)⟩ : S82)))), 0⟩]⟩) (none)) : Option Unit) := by kernel_rfl
theorem okc_129 (args : List (AV tau)) (m : Mem tau) (κ : AV tau → Mem tau → Option Unit) (hh : c_129 args m κ = some ()) : ∃ av m1, κ av m1 = some () ∧ ToldA Try.prog TT (pnT 129) 129 args m av m1 := by
 obtain ⟨bx_, rw_⟩ := m
 unfold c_129 at hh
 simp only at hh
 split at hh
 case h_2 => cases hh
 rename_i b0
 obtain ⟨l0, hx0, hh0⟩ := bO_some hh
 have ex0 := asSl_some hx0
 subst ex0
 obtain ⟨N, t, h, hκ⟩ := callX_some hh0
 refine ⟨_, _, hκ, told_of_run pq okC_129 (fun _ _ _ => drawA_ok pq okC_129 hmix) (E := E_129) (fn := Try.f129) (body := B_129) (by kernel_rfl) (by kernel_rfl) (by kernel_rfl) (by rfl) (by exact Nat.le_of_ble_eq_true rfl) (fun k hk => ?_)⟩
 refine (w_129 l0 k).trans ?_
 replace h : impl_copied_impl_Put.f l0 = some t := h
 unfold impl_copied_impl_Put.f at h
 refine ite_x h (fun c1 h => ?_) (fun _ h => by cases h)
 cases h
 exact copied_of (α := S82) l0 _ _ (k := fun q : List S82 => k (.own 0 0) ⟨[], [some ⟨82, q, 0⟩]⟩) c1 hk
noncomputable def C_61 : Ctr tau Unit := ctrS 129 c_129 C_129
noncomputable def D_61 : Drw tau := drawA E_61 C_61
theorem okC_61 : CtrOk Try.prog TT pnT C_61 := ctrS_ok okC_129 okc_129
theorem mC_61 : CtrMono C_61 := ctrS_mono mC_129 mc_129
theorem mD_61 : DrMono D_61 := drawA_mono mC_61
noncomputable def B_61 : Code := Try.f61.body.getD .skip
theorem mc_61 (args : List (AV tau)) (m : Mem tau) (k k' : AV tau → Mem tau → Option Unit) (hk : ∀ av m, k av m = some () → k' av m = some ()) (h : c_61 args m k = some ()) : c_61 args m k' = some () := by
 unfold c_61 at h ⊢
 split at h
 · repeat' first | exact callX_mono (fun _ h => hk _ _ h) h | refine bO_mono (fun _ h => ?_) h
 · cases h
noncomputable def K_61_0 (k : AV tau → Mem tau → Option Unit) : Kon tau := (kBlock 0 (kS E_61 C_61 D_61 (codeP B_61 [1, 1, 1, 1, 1]) (kEnd E_61 Try.f61 k)))
noncomputable def K_61_1 (k : AV tau → Mem tau → Option Unit) : Kon tau := (kBlock 3 (kBlock 1 (kS E_61 C_61 D_61 (codeP B_61 [1, 1, 1, 1, 0, 1, 0, 0, 1, 1]) (kL E_61 C_61 D_61 (codeP B_61 [1, 1, 1, 1, 0, 1, 0, 0]) (kBlock 0 (kS E_61 C_61 D_61 (codeP B_61 [1, 1, 1, 1, 1]) (kEnd E_61 Try.f61 k)))))))
def st_61_0 (x0 : (List S37)) (x1 : (List S95)) (x2 : Int) (x3 : Int) (x4 : Int) (x5 : Int) (x6 : Int) (x7 : Int) (x8 : Int) (x9 : Int) (x10 : Int) (x11 : (List S39)) (x12 : (List S82)) (x13 : (List S39)) (x14 : (List S82)) : St tau := ⟨tmL 182 0 [(0, .sl 37 x0), (1, .sl 95 x1), (4, .ptr 0 0), (5, .ptr 1 0), (6, .ptr 2 0), (7, .int .i64 x2)], ⟨[some (26, [.own 0 0, .own 1 0, .int .i64 x3, .int .i64 x4]), some (158, [.int .i64 x5, .int .i64 x6, .int .i64 x7, .int .i64 x8]), some (26, [.own 2 0, .own 3 0, .int .i64 x9, .int .i64 x10])], [some ⟨39, x11, 0⟩, some ⟨82, x12, 0⟩, some ⟨39, x13, 0⟩, some ⟨82, x14, 0⟩]⟩⟩
noncomputable def LP_61_0 (k : AV tau → Mem tau → Option Unit) (x0 : (List S37)) (x1 : (List S95)) (x2 : Int) (x3 : Int) (x4 : Int) (x5 : Int) (x6 : Int) (x7 : Int) (x8 : Int) (x9 : Int) (x10 : Int) (x11 : (List S39)) (x12 : (List S82)) (x13 : (List S39)) (x14 : (List S82)) : Option Unit := loopA E_61 (codeA E_61 C_61 D_61 (codeP B_61 [1, 1, 1, 1, 0, 1, 0, 0])) (codeP B_61 [1, 1, 1, 1, 0, 1, 0, 0]) (K_61_0 k) (st_61_0 x0 x1 x2 x3 x4 x5 x6 x7 x8 x9 x10 x11 x12 x13 x14)
def st_61_1 (x0 : (List S37)) (x1 : (List S95)) (x2 : Int) (x3 : Int) (x4 : Int) (x5 : Int) (x6 : Int) (x7 : Int) (x8 : Int) (x9 : Int) (x10 : Int) (x11 : Int) (x12 : Int) (x13 : Int) (x14 : Int) (x15 : Int) (x16 : (List S39)) (x17 : (List S82)) (x18 : (List S39)) (x19 : (List S82)) : St tau := ⟨tmL 182 0 [(0, .sl 37 x0), (1, .sl 95 x1), (4, .ptr 0 0), (5, .ptr 1 0), (6, .ptr 2 0), (7, .int .i64 x2), (161, .agg [.int .i64 x3, .int .i64 x4, .int .i64 x5, .int .i64 x6]), (162, .int .i64 x7)], ⟨[some (26, [.own 0 0, .own 1 0, .int .i64 x8, .int .i64 x9]), some (158, [.int .i64 x10, .int .i64 x11, .int .i64 x12, .int .i64 x13]), some (26, [.own 2 0, .own 3 0, .int .i64 x14, .int .i64 x15])], [some ⟨39, x16, 0⟩, some ⟨82, x17, 0⟩, some ⟨39, x18, 0⟩, some ⟨82, x19, 0⟩]⟩⟩
noncomputable def LP_61_1 (k : AV tau → Mem tau → Option Unit) (x0 : (List S37)) (x1 : (List S95)) (x2 : Int) (x3 : Int) (x4 : Int) (x5 : Int) (x6 : Int) (x7 : Int) (x8 : Int) (x9 : Int) (x10 : Int) (x11 : Int) (x12 : Int) (x13 : Int) (x14 : Int) (x15 : Int) (x16 : (List S39)) (x17 : (List S82)) (x18 : (List S39)) (x19 : (List S82)) : Option Unit := loopA E_61 (codeA E_61 C_61 D_61 (codeP B_61 [1, 1, 1, 1, 0, 1, 0, 0, 1, 0, 0, 1, 1, 1, 0, 0])) (codeP B_61 [1, 1, 1, 1, 0, 1, 0, 0, 1, 0, 0, 1, 1, 1, 0, 0]) (K_61_1 k) (st_61_1 x0 x1 x2 x3 x4 x5 x6 x7 x8 x9 x10 x11 x12 x13 x14 x15 x16 x17 x18 x19)
theorem w_61_0 (k : AV tau → Mem tau → Option Unit) (x0 : (List S37)) (x1 : (List S95)) (x2 : Int) (x3 : Int) (x4 : Int) (x5 : Int) (x6 : Int) (x7 : Int) (x8 : Int) (x9 : Int) (x10 : Int) (x11 : (List S39)) (x12 : (List S82)) (x13 : (List S39)) (x14 : (List S82)) : codeA E_61 C_61 D_61 (codeP B_61 [1, 1, 1, 1, 0, 1, 0, 0]) (kL E_61 C_61 D_61 (codeP B_61 [1, 1, 1, 1, 0, 1, 0, 0]) (K_61_0 k)) (st_61_0 x0 x1 x2 x3 x4 x5 x6 x7 x8 x9 x10 x11 x12 x13 x14) = (brA (decide (x2 < ((x1.length : Nat) : Int))) (brA (decide ((0 : Int) ≤ x2)) (brA (decide (x2 < ((x1.length : Nat) : Int))) (brA (decide ((rd_T95 x1 x2).f0 = (1 : Int))) (callX (fun n => impl_putAt.f n x13 x14 x9 x10 ((rd_T95 x1 x2).f2)) fun t2 => brA (decide (t2 ≥ (0 : Int))) (brA (decide ((0 : Int) ≤ t2)) (brA (decide (t2 < ((x14.length : Nat) : Int))) (brA (decide ((0 : Int) ≤ (rd_T95 x1 x2).f1)) (brA (decide ((rd_T95 x1 x2).f1 < (4 : Int))) (LP_61_1 k x0 x1 x2 (if (rd_T95 x1 x2).f1 = (0 : Int) then (rd_T82 x14 t2).f1 else x5) (if (rd_T95 x1 x2).f1 = (1 : Int) then (rd_T82 x14 t2).f1 else x6) (if (rd_T95 x1 x2).f1 = (2 : Int) then (rd_T82 x14 t2).f1 else x7) (if (rd_T95 x1 x2).f1 = (3 : Int) then (rd_T82 x14 t2).f1 else x8) (0 : Int) x3 x4 (if (rd_T95 x1 x2).f1 = (0 : Int) then (rd_T82 x14 t2).f1 else x5) (if (rd_T95 x1 x2).f1 = (1 : Int) then (rd_T82 x14 t2).f1 else x6) (if (rd_T95 x1 x2).f1 = (2 : Int) then (rd_T82 x14 t2).f1 else x7) (if (rd_T95 x1 x2).f1 = (3 : Int) then (rd_T82 x14 t2).f1 else x8) x9 x10 x11 x12 x13 x14) (none)) (none)) (none)) (none)) (callX (fun n => impl_readAt.f n x13 x14 x9 x10 ((rd_T95 x1 x2).f2)) fun t3 => brA (decide (t3 < (0 : Int))) (brA (decide ((0 : Int) ≤ (rd_T95 x1 x2).f2)) (brA (decide ((rd_T95 x1 x2).f2 < ((x0.length : Nat) : Int))) (brA (decide ((x13.length + 1) ≤ 8796093022208)) (brA (decide ((0 : Int) ≤ (rd_T95 x1 x2).f2)) (brA (decide ((rd_T95 x1 x2).f2 < ((x0.length : Nat) : Int))) (brA (decide ((0 : Int) ≤ (rd_T95 x1 x2).f1)) (brA (decide ((rd_T95 x1 x2).f1 < (4 : Int))) (LP_61_1 k x0 x1 x2 (if (rd_T95 x1 x2).f1 = (0 : Int) then (rd_T37 x0 ((rd_T95 x1 x2).f2)).f1 else x5) (if (rd_T95 x1 x2).f1 = (1 : Int) then (rd_T37 x0 ((rd_T95 x1 x2).f2)).f1 else x6) (if (rd_T95 x1 x2).f1 = (2 : Int) then (rd_T37 x0 ((rd_T95 x1 x2).f2)).f1 else x7) (if (rd_T95 x1 x2).f1 = (3 : Int) then (rd_T37 x0 ((rd_T95 x1 x2).f2)).f1 else x8) (0 : Int) x3 x4 (if (rd_T95 x1 x2).f1 = (0 : Int) then (rd_T37 x0 ((rd_T95 x1 x2).f2)).f1 else x5) (if (rd_T95 x1 x2).f1 = (1 : Int) then (rd_T37 x0 ((rd_T95 x1 x2).f2)).f1 else x6) (if (rd_T95 x1 x2).f1 = (2 : Int) then (rd_T37 x0 ((rd_T95 x1 x2).f2)).f1 else x7) (if (rd_T95 x1 x2).f1 = (3 : Int) then (rd_T37 x0 ((rd_T95 x1 x2).f2)).f1 else x8) x9 x10 x11 x12 (x13 ++ ([(⟨(rd_T95 x1 x2).f2, (rd_T37 x0 ((rd_T95 x1 x2).f2)).f0⟩ : S39)] : List S39)) x14) (none)) (none)) (none)) (none)) (none)) (none)) (none)) (brA (decide ((0 : Int) ≤ (rd_T95 x1 x2).f2)) (brA (decide ((rd_T95 x1 x2).f2 < ((x0.length : Nat) : Int))) (brA (decide ((0 : Int) ≤ (rd_T95 x1 x2).f1)) (brA (decide ((rd_T95 x1 x2).f1 < (4 : Int))) (LP_61_1 k x0 x1 x2 (if (rd_T95 x1 x2).f1 = (0 : Int) then (rd_T37 x0 ((rd_T95 x1 x2).f2)).f1 else x5) (if (rd_T95 x1 x2).f1 = (1 : Int) then (rd_T37 x0 ((rd_T95 x1 x2).f2)).f1 else x6) (if (rd_T95 x1 x2).f1 = (2 : Int) then (rd_T37 x0 ((rd_T95 x1 x2).f2)).f1 else x7) (if (rd_T95 x1 x2).f1 = (3 : Int) then (rd_T37 x0 ((rd_T95 x1 x2).f2)).f1 else x8) (0 : Int) x3 x4 (if (rd_T95 x1 x2).f1 = (0 : Int) then (rd_T37 x0 ((rd_T95 x1 x2).f2)).f1 else x5) (if (rd_T95 x1 x2).f1 = (1 : Int) then (rd_T37 x0 ((rd_T95 x1 x2).f2)).f1 else x6) (if (rd_T95 x1 x2).f1 = (2 : Int) then (rd_T37 x0 ((rd_T95 x1 x2).f2)).f1 else x7) (if (rd_T95 x1 x2).f1 = (3 : Int) then (rd_T37 x0 ((rd_T95 x1 x2).f2)).f1 else x8) x9 x10 x11 x12 x13 x14) (none)) (none)) (none)) (none)))) (brA (decide ((rd_T95 x1 x2).f0 = (2 : Int))) (callX (fun n => impl_putAt.f n x13 x14 x9 x10 ((rd_T95 x1 x2).f1)) fun t4 => brA (decide (t4 ≥ (0 : Int))) (brA (decide ((0 : Int) ≤ (rd_T95 x1 x2).f2)) (brA (decide ((rd_T95 x1 x2).f2 < (4 : Int))) (brA (decide ((0 : Int) ≤ t4)) (brA (decide (t4 < ((x14.length : Nat) : Int))) (LP_61_1 k x0 x1 x2 x5 x6 x7 x8 (0 : Int) x3 x4 x5 x6 x7 x8 x9 x10 x11 x12 x13 (List.set x14 (Int.toNat t4) (⟨(rd_T82 x14 t4).f0, (rd ([x5, x6, x7, x8] : List Int) ((rd_T95 x1 x2).f2))⟩ : S82))) (none)) (none)) (none)) (none)) (brA (decide ((0 : Int) ≤ (rd_T95 x1 x2).f2)) (brA (decide ((rd_T95 x1 x2).f2 < (4 : Int))) (brA (decide ((x14.length + 1) ≤ 8796093022208)) (LP_61_1 k x0 x1 x2 x5 x6 x7 x8 (0 : Int) x3 x4 x5 x6 x7 x8 x9 x10 x11 x12 x13 (x14 ++ ([(⟨(rd_T95 x1 x2).f1, (rd ([x5, x6, x7, x8] : List Int) ((rd_T95 x1 x2).f2))⟩ : S82)] : List S82))) (none)) (none)) (none))) (brA (decide ((rd_T95 x1 x2).f0 = (3 : Int))) (brA (decide ((0 : Int) ≤ (rd_T95 x1 x2).f1)) (brA (decide ((rd_T95 x1 x2).f1 < (4 : Int))) (LP_61_1 k x0 x1 x2 (if (rd_T95 x1 x2).f1 = (0 : Int) then (rd_T95 x1 x2).f3 else x5) (if (rd_T95 x1 x2).f1 = (1 : Int) then (rd_T95 x1 x2).f3 else x6) (if (rd_T95 x1 x2).f1 = (2 : Int) then (rd_T95 x1 x2).f3 else x7) (if (rd_T95 x1 x2).f1 = (3 : Int) then (rd_T95 x1 x2).f3 else x8) (0 : Int) x3 x4 (if (rd_T95 x1 x2).f1 = (0 : Int) then (rd_T95 x1 x2).f3 else x5) (if (rd_T95 x1 x2).f1 = (1 : Int) then (rd_T95 x1 x2).f3 else x6) (if (rd_T95 x1 x2).f1 = (2 : Int) then (rd_T95 x1 x2).f3 else x7) (if (rd_T95 x1 x2).f1 = (3 : Int) then (rd_T95 x1 x2).f3 else x8) x9 x10 x11 x12 x13 x14) (none)) (none)) (brA (decide ((rd_T95 x1 x2).f0 = (4 : Int))) (brA (decide ((0 : Int) ≤ (rd_T95 x1 x2).f1)) (brA (decide ((rd_T95 x1 x2).f1 < (4 : Int))) (brA (decide ((0 : Int) ≤ (rd_T95 x1 x2).f2)) (brA (decide ((rd_T95 x1 x2).f2 < (4 : Int))) (brA (decide ((0 : Int) ≤ (rd_T95 x1 x2).f1)) (brA (decide ((rd_T95 x1 x2).f1 < (4 : Int))) (LP_61_1 k x0 x1 x2 (if (rd_T95 x1 x2).f1 = (0 : Int) then (wrap64 ((rd ([x5, x6, x7, x8] : List Int) ((rd_T95 x1 x2).f1)) + (rd ([x5, x6, x7, x8] : List Int) ((rd_T95 x1 x2).f2)))) else x5) (if (rd_T95 x1 x2).f1 = (1 : Int) then (wrap64 ((rd ([x5, x6, x7, x8] : List Int) ((rd_T95 x1 x2).f1)) + (rd ([x5, x6, x7, x8] : List Int) ((rd_T95 x1 x2).f2)))) else x6) (if (rd_T95 x1 x2).f1 = (2 : Int) then (wrap64 ((rd ([x5, x6, x7, x8] : List Int) ((rd_T95 x1 x2).f1)) + (rd ([x5, x6, x7, x8] : List Int) ((rd_T95 x1 x2).f2)))) else x7) (if (rd_T95 x1 x2).f1 = (3 : Int) then (wrap64 ((rd ([x5, x6, x7, x8] : List Int) ((rd_T95 x1 x2).f1)) + (rd ([x5, x6, x7, x8] : List Int) ((rd_T95 x1 x2).f2)))) else x8) (0 : Int) x3 x4 (if (rd_T95 x1 x2).f1 = (0 : Int) then (wrap64 ((rd ([x5, x6, x7, x8] : List Int) ((rd_T95 x1 x2).f1)) + (rd ([x5, x6, x7, x8] : List Int) ((rd_T95 x1 x2).f2)))) else x5) (if (rd_T95 x1 x2).f1 = (1 : Int) then (wrap64 ((rd ([x5, x6, x7, x8] : List Int) ((rd_T95 x1 x2).f1)) + (rd ([x5, x6, x7, x8] : List Int) ((rd_T95 x1 x2).f2)))) else x6) (if (rd_T95 x1 x2).f1 = (2 : Int) then (wrap64 ((rd ([x5, x6, x7, x8] : List Int) ((rd_T95 x1 x2).f1)) + (rd ([x5, x6, x7, x8] : List Int) ((rd_T95 x1 x2).f2)))) else x7) (if (rd_T95 x1 x2).f1 = (3 : Int) then (wrap64 ((rd ([x5, x6, x7, x8] : List Int) ((rd_T95 x1 x2).f1)) + (rd ([x5, x6, x7, x8] : List Int) ((rd_T95 x1 x2).f2)))) else x8) x9 x10 x11 x12 x13 x14) (none)) (none)) (none)) (none)) (none)) (none)) (brA (decide ((rd_T95 x1 x2).f0 = (5 : Int))) (brA (decide ((0 : Int) ≤ (rd_T95 x1 x2).f1)) (brA (decide ((rd_T95 x1 x2).f1 < (4 : Int))) (brA (decide ((0 : Int) ≤ (rd_T95 x1 x2).f2)) (brA (decide ((rd_T95 x1 x2).f2 < (4 : Int))) (brA (decide ((0 : Int) ≤ (rd_T95 x1 x2).f1)) (brA (decide ((rd_T95 x1 x2).f1 < (4 : Int))) (LP_61_1 k x0 x1 x2 (if (rd_T95 x1 x2).f1 = (0 : Int) then (wrap64 ((rd ([x5, x6, x7, x8] : List Int) ((rd_T95 x1 x2).f1)) - (rd ([x5, x6, x7, x8] : List Int) ((rd_T95 x1 x2).f2)))) else x5) (if (rd_T95 x1 x2).f1 = (1 : Int) then (wrap64 ((rd ([x5, x6, x7, x8] : List Int) ((rd_T95 x1 x2).f1)) - (rd ([x5, x6, x7, x8] : List Int) ((rd_T95 x1 x2).f2)))) else x6) (if (rd_T95 x1 x2).f1 = (2 : Int) then (wrap64 ((rd ([x5, x6, x7, x8] : List Int) ((rd_T95 x1 x2).f1)) - (rd ([x5, x6, x7, x8] : List Int) ((rd_T95 x1 x2).f2)))) else x7) (if (rd_T95 x1 x2).f1 = (3 : Int) then (wrap64 ((rd ([x5, x6, x7, x8] : List Int) ((rd_T95 x1 x2).f1)) - (rd ([x5, x6, x7, x8] : List Int) ((rd_T95 x1 x2).f2)))) else x8) (0 : Int) x3 x4 (if (rd_T95 x1 x2).f1 = (0 : Int) then (wrap64 ((rd ([x5, x6, x7, x8] : List Int) ((rd_T95 x1 x2).f1)) - (rd ([x5, x6, x7, x8] : List Int) ((rd_T95 x1 x2).f2)))) else x5) (if (rd_T95 x1 x2).f1 = (1 : Int) then (wrap64 ((rd ([x5, x6, x7, x8] : List Int) ((rd_T95 x1 x2).f1)) - (rd ([x5, x6, x7, x8] : List Int) ((rd_T95 x1 x2).f2)))) else x6) (if (rd_T95 x1 x2).f1 = (2 : Int) then (wrap64 ((rd ([x5, x6, x7, x8] : List Int) ((rd_T95 x1 x2).f1)) - (rd ([x5, x6, x7, x8] : List Int) ((rd_T95 x1 x2).f2)))) else x7) (if (rd_T95 x1 x2).f1 = (3 : Int) then (wrap64 ((rd ([x5, x6, x7, x8] : List Int) ((rd_T95 x1 x2).f1)) - (rd ([x5, x6, x7, x8] : List Int) ((rd_T95 x1 x2).f2)))) else x8) x9 x10 x11 x12 x13 x14) (none)) (none)) (none)) (none)) (none)) (none)) (brA (decide ((rd_T95 x1 x2).f0 = (6 : Int))) (brA (decide ((0 : Int) ≤ (rd_T95 x1 x2).f1)) (brA (decide ((rd_T95 x1 x2).f1 < (4 : Int))) (brA (decide ((0 : Int) ≤ (rd_T95 x1 x2).f2)) (brA (decide ((rd_T95 x1 x2).f2 < (4 : Int))) (brA (decide ((rd ([x5, x6, x7, x8] : List Int) ((rd_T95 x1 x2).f1)) < (rd ([x5, x6, x7, x8] : List Int) ((rd_T95 x1 x2).f2)))) (LP_61_1 k x0 x1 (wrap64 (x2 + (rd_T95 x1 x2).f3)) x5 x6 x7 x8 (0 : Int) x3 x4 x5 x6 x7 x8 x9 x10 x11 x12 x13 x14) (LP_61_1 k x0 x1 x2 x5 x6 x7 x8 (0 : Int) x3 x4 x5 x6 x7 x8 x9 x10 x11 x12 x13 x14)) (none)) (none)) (none)) (none)) (brA (decide ((rd_T95 x1 x2).f0 = (7 : Int))) (callX (fun n => impl_copied_impl_Read.f x13) fun t5 => k (.agg [.own 0 0, .own 1 0, .int .i64 (0 : Int), .int .i64 (1 : Int)]) ⟨[], [some ⟨39, t5, 0⟩, some ⟨82, ([] : List S82), 0⟩]⟩) (LP_61_1 k x0 x1 x2 x5 x6 x7 x8 (0 : Int) x3 x4 x5 x6 x7 x8 x9 x10 x11 x12 x13 x14)))))))) (none)) (none)) (callX (fun n => impl_copied_impl_Read.f x13) fun t6 => callX (fun n => impl_copied_impl_Put.f x14) fun t7 => k (.agg [.own 0 0, .own 1 0, .int .i64 (rd ([x5, x6, x7, x8] : List Int) (0 : Int)), .int .i64 (0 : Int)]) ⟨[], [some ⟨39, t6, 0⟩, some ⟨82, t7, 0⟩]⟩) : Option Unit) := by kernel_rfl
theorem w_61_1 (k : AV tau → Mem tau → Option Unit) (x0 : (List S37)) (x1 : (List S95)) (x2 : Int) (x3 : Int) (x4 : Int) (x5 : Int) (x6 : Int) (x7 : Int) (x8 : Int) (x9 : Int) (x10 : Int) (x11 : Int) (x12 : Int) (x13 : Int) (x14 : Int) (x15 : Int) (x16 : (List S39)) (x17 : (List S82)) (x18 : (List S39)) (x19 : (List S82)) : codeA E_61 C_61 D_61 (codeP B_61 [1, 1, 1, 1, 0, 1, 0, 0, 1, 0, 0, 1, 1, 1, 0, 0]) (kL E_61 C_61 D_61 (codeP B_61 [1, 1, 1, 1, 0, 1, 0, 0, 1, 0, 0, 1, 1, 1, 0, 0]) (K_61_1 k)) (st_61_1 x0 x1 x2 x3 x4 x5 x6 x7 x8 x9 x10 x11 x12 x13 x14 x15 x16 x17 x18 x19) = (brA (decide (x7 < (4 : Int))) (brA (decide ((0 : Int) ≤ x7)) (brA (decide (x7 < (4 : Int))) (callX (fun n => impl_in.f (rd ([x3, x4, x5, x6] : List Int) x7) (-(1000000 : Int)) (1000000 : Int)) fun t8 => brA (!t8) (callX (fun n => impl_copied_impl_Read.f x18) fun t9 => k (.agg [.own 0 0, .own 1 0, .int .i64 (0 : Int), .int .i64 (2 : Int)]) ⟨[], [some ⟨39, t9, 0⟩, some ⟨82, ([] : List S82), 0⟩]⟩) (LP_61_1 k x0 x1 x2 x3 x4 x5 x6 (wrap64 (x7 + (1 : Int))) x8 x9 x10 x11 x12 x13 x14 x15 x16 x17 x18 x19)) (none)) (none)) (LP_61_0 k x0 x1 (wrap64 (x2 + (1 : Int))) x8 x9 x10 x11 x12 x13 x14 x15 x16 x17 x18 x19) : Option Unit) := by kernel_rfl
theorem w_61 (l0 : List S37) (l1 : List S95) (k : AV tau → Mem tau → Option Unit) : fnA E_61 C_61 D_61 Try.f61 B_61 [.sl 37 l0, .sl 95 l1] ⟨[], []⟩ k = (callX (fun n => impl_BoxOk.f n l0) fun t0 => brA (!t0) (k (.agg [.own 0 0, .own 1 0, .int .i64 (0 : Int), .int .i64 (3 : Int)]) ⟨[], [some ⟨39, ([] : List S39), 0⟩, some ⟨82, ([] : List S82), 0⟩]⟩) (callX (fun n => impl_ProgOk.f n l1) fun t1 => brA (!t1) (k (.agg [.own 0 0, .own 1 0, .int .i64 (0 : Int), .int .i64 (3 : Int)]) ⟨[], [some ⟨39, ([] : List S39), 0⟩, some ⟨82, ([] : List S82), 0⟩]⟩) (LP_61_0 k l0 l1 (0 : Int) (0 : Int) (0 : Int) (0 : Int) (0 : Int) (0 : Int) (0 : Int) (0 : Int) (0 : Int) ([] : List S39) ([] : List S82) ([] : List S39) ([] : List S82))) : Option Unit) := by kernel_rfl
def S_61_0 (N : Nat) : Prop := ∀ (k : AV tau → Mem tau → Option Unit) (x0 : (List S37)) (x1 : (List S95)) (x2 : Int) (x3 : Int) (x4 : Int) (x5 : Int) (x6 : Int) (x7 : Int) (x8 : Int) (x9 : Int) (x10 : Int) (x11 : (List S39)) (x12 : (List S82)) (x13 : (List S39)) (x14 : (List S82)) (r : (List (S39)) × (List (S82)) × Int × Int), impl_ExecRun.l0 N (x0) (x1) (x2) (x5) (x6) (x7) (x8) (x13) (x14) (x9) (x10) = some r → k (.agg [.own 0 0, .own 1 0, .int .i64 (r.2.2.1), .int .i64 (r.2.2.2)]) ⟨[], [some ⟨39, r.1, 0⟩, some ⟨82, r.2.1, 0⟩]⟩ = some () → LP_61_0 k x0 x1 x2 x3 x4 x5 x6 x7 x8 x9 x10 x11 x12 x13 x14 = some ()
def S_61_1 (N : Nat) : Prop := ∀ (k : AV tau → Mem tau → Option Unit) (x0 : (List S37)) (x1 : (List S95)) (x2 : Int) (x3 : Int) (x4 : Int) (x5 : Int) (x6 : Int) (x7 : Int) (x8 : Int) (x9 : Int) (x10 : Int) (x11 : Int) (x12 : Int) (x13 : Int) (x14 : Int) (x15 : Int) (x16 : (List S39)) (x17 : (List S82)) (x18 : (List S39)) (x19 : (List S82)) (r : (List (S39)) × (List (S82)) × Int × Int), impl_ExecRun.l1 N (x0) (x1) (x2) (x7) (x10) (x11) (x12) (x13) (x18) (x19) (x14) (x15) (x3) (x4) (x5) (x6) = some r → k (.agg [.own 0 0, .own 1 0, .int .i64 (r.2.2.1), .int .i64 (r.2.2.2)]) ⟨[], [some ⟨39, r.1, 0⟩, some ⟨82, r.2.1, 0⟩]⟩ = some () → LP_61_1 k x0 x1 x2 x3 x4 x5 x6 x7 x8 x9 x10 x11 x12 x13 x14 x15 x16 x17 x18 x19 = some ()
theorem L_61 (N : Nat) : S_61_0 N ∧ S_61_1 N := by
 induction N using Nat.strongRecOn with | _ N0 ih =>
 refine ⟨?_, ?_⟩
 ·intro k x0 x1 x2 x3 x4 x5 x6 x7 x8 x9 x10 x11 x12 x13 x14 r h hk
  rcases N0 with _ | N
  · cases h
  first | rw [impl_ExecRun.l0] at h | simp only [impl_ExecRun.l0] at h | (unfold impl_ExecRun.l0 at h; dsimp only at h)
  refine loop_fold mC_61 mD_61 ?_
  refine (w_61_0 k x0 x1 x2 x3 x4 x5 x6 x7 x8 x9 x10 x11 x12 x13 x14).trans ?_
  refine br_eti h rfl (fun c135 h => ?_) (fun c135 h => ?_)
  ·refine call_h 0 h (fun t6 e136 h => ?_)
   refine call_h 0 h (fun t7 e137 h => ?_)
   cases h; exact hk
  refine br_g h rfl (fun c138 h => ?_)
  refine br_t (by first | (simp [c135]; done) | (simp; omega) | (simp_all; done)) ?_
  refine br_ite h rfl (fun c139 h => ?_) (fun c139 h => ?_)
  ·refine call_h N h (fun t2 e140 h => ?_)
   refine br_ite h rfl (fun c141 h => ?_) (fun c141 h => ?_)
   ·refine br_g h rfl (fun c142 h => ?_)
    refine br_g h rfl (fun c143 h => ?_)
    refine br_g h rfl (fun c144 h => ?_)
    refine br_g h rfl (fun c145 h => ?_)
    rcases N with _ | N
    · cases h
    first | rw [impl_ExecRun.j2] at h | simp only [impl_ExecRun.j2] at h | (unfold impl_ExecRun.j2 at h; dsimp only at h)
    exact (ih N (by omega)).2 _ _ _ _ _ _ _ _ _ _ _ _ _ _ _ _ _ _ _ _ _ _ h hk
   refine call_h N h (fun t3 e146 h => ?_)
   refine br_eti h rfl (fun c147 h => ?_) (fun c147 h => ?_)
   ·refine br_g h rfl (fun c148 h => ?_)
    refine br_g h rfl (fun c149 h => ?_)
    refine br_g h rfl (fun c150 h => ?_)
    refine br_g h rfl (fun c151 h => ?_)
    rcases N with _ | N
    · cases h
    first | rw [impl_ExecRun.j2] at h | simp only [impl_ExecRun.j2] at h | (unfold impl_ExecRun.j2 at h; dsimp only at h)
    exact (ih N (by omega)).2 _ _ _ _ _ _ _ _ _ _ _ _ _ _ _ _ _ _ _ _ _ _ h hk
   refine br_g h rfl (fun c152 h => ?_)
   refine br_g h rfl (fun c153 h => ?_)
   refine br_g h (by first | rfl | exact dect | exact (congrArg not dect) | (simp; done) | (simp [beqI]; done) | (simp; omega)) (fun c154 h => ?_)
   refine br_t (by first | (simp [c152]; done) | (simp; omega) | (simp_all; done)) ?_
   refine br_t (by first | (simp [c153]; done) | (simp; omega) | (simp_all; done)) ?_
   refine br_g h rfl (fun c155 h => ?_)
   refine br_g h rfl (fun c156 h => ?_)
   rcases N with _ | N
   · cases h
   first | rw [impl_ExecRun.j2] at h | simp only [impl_ExecRun.j2] at h | (unfold impl_ExecRun.j2 at h; dsimp only at h)
   exact (ih N (by omega)).2 _ _ _ _ _ _ _ _ _ _ _ _ _ _ _ _ _ _ _ _ _ _ h hk
  refine br_ite h rfl (fun c157 h => ?_) (fun c157 h => ?_)
  ·refine call_h N h (fun t4 e158 h => ?_)
   refine br_eti h rfl (fun c159 h => ?_) (fun c159 h => ?_)
   ·refine br_g h rfl (fun c160 h => ?_)
    refine br_g h rfl (fun c161 h => ?_)
    refine br_g h (by first | rfl | exact dect | exact (congrArg not dect) | (simp; done) | (simp [beqI]; done) | (simp; omega)) (fun c162 h => ?_)
    rcases N with _ | N
    · cases h
    first | rw [impl_ExecRun.j2] at h | simp only [impl_ExecRun.j2] at h | (unfold impl_ExecRun.j2 at h; dsimp only at h)
    exact (ih N (by omega)).2 _ _ _ _ _ _ _ _ _ _ _ _ _ _ _ _ _ _ _ _ _ _ h hk
   refine br_g h rfl (fun c163 h => ?_)
   refine br_g h rfl (fun c164 h => ?_)
   refine br_g h rfl (fun c165 h => ?_)
   refine br_g h rfl (fun c166 h => ?_)
   rcases N with _ | N
   · cases h
   first | rw [impl_ExecRun.j2] at h | simp only [impl_ExecRun.j2] at h | (unfold impl_ExecRun.j2 at h; dsimp only at h)
   exact (ih N (by omega)).2 _ _ _ _ _ _ _ _ _ _ _ _ _ _ _ _ _ _ _ _ _ _ h hk
  refine br_ite h rfl (fun c167 h => ?_) (fun c167 h => ?_)
  ·refine br_g h rfl (fun c168 h => ?_)
   refine br_g h rfl (fun c169 h => ?_)
   rcases N with _ | N
   · cases h
   first | rw [impl_ExecRun.j2] at h | simp only [impl_ExecRun.j2] at h | (unfold impl_ExecRun.j2 at h; dsimp only at h)
   exact (ih N (by omega)).2 _ _ _ _ _ _ _ _ _ _ _ _ _ _ _ _ _ _ _ _ _ _ h hk
  refine br_ite h rfl (fun c170 h => ?_) (fun c170 h => ?_)
  ·refine br_g h rfl (fun c171 h => ?_)
   refine br_g h rfl (fun c172 h => ?_)
   refine br_g h rfl (fun c173 h => ?_)
   refine br_g h rfl (fun c174 h => ?_)
   rcases N with _ | N
   · cases h
   first | rw [impl_ExecRun.j2] at h | simp only [impl_ExecRun.j2] at h | (unfold impl_ExecRun.j2 at h; dsimp only at h)
   refine br_t (by first | (simp [c171]; done) | (simp; omega) | (simp_all; done)) ?_
   refine br_t (by first | (simp [c172]; done) | (simp; omega) | (simp_all; done)) ?_
   exact (ih N (by omega)).2 _ _ _ _ _ _ _ _ _ _ _ _ _ _ _ _ _ _ _ _ _ _ h hk
  refine br_eti h rfl (fun c175 h => ?_) (fun c175 h => ?_)
  ·refine br_eti h rfl (fun c176 h => ?_) (fun c176 h => ?_)
   ·refine br_eti h rfl (fun c177 h => ?_) (fun c177 h => ?_)
    ·rcases N with _ | N
     · cases h
     first | rw [impl_ExecRun.j2] at h | simp only [impl_ExecRun.j2] at h | (unfold impl_ExecRun.j2 at h; dsimp only at h)
     exact (ih N (by omega)).2 _ _ _ _ _ _ _ _ _ _ _ _ _ _ _ _ _ _ _ _ _ _ h hk
    refine call_h 0 h (fun t5 e178 h => ?_)
    cases h; exact hk
   refine br_g h rfl (fun c179 h => ?_)
   refine br_g h rfl (fun c180 h => ?_)
   refine br_g h rfl (fun c181 h => ?_)
   refine br_g h rfl (fun c182 h => ?_)
   refine br_eti h rfl (fun c183 h => ?_) (fun c183 h => ?_)
   ·rcases N with _ | N
    · cases h
    first | rw [impl_ExecRun.j2] at h | simp only [impl_ExecRun.j2] at h | (unfold impl_ExecRun.j2 at h; dsimp only at h)
    exact (ih N (by omega)).2 _ _ _ _ _ _ _ _ _ _ _ _ _ _ _ _ _ _ _ _ _ _ h hk
   rcases N with _ | N
   · cases h
   first | rw [impl_ExecRun.j2] at h | simp only [impl_ExecRun.j2] at h | (unfold impl_ExecRun.j2 at h; dsimp only at h)
   exact (ih N (by omega)).2 _ _ _ _ _ _ _ _ _ _ _ _ _ _ _ _ _ _ _ _ _ _ h hk
  refine br_g h rfl (fun c184 h => ?_)
  refine br_g h rfl (fun c185 h => ?_)
  refine br_g h rfl (fun c186 h => ?_)
  refine br_g h rfl (fun c187 h => ?_)
  rcases N with _ | N
  · cases h
  first | rw [impl_ExecRun.j2] at h | simp only [impl_ExecRun.j2] at h | (unfold impl_ExecRun.j2 at h; dsimp only at h)
  refine br_t (by first | (simp [c184]; done) | (simp; omega) | (simp_all; done)) ?_
  refine br_t (by first | (simp [c185]; done) | (simp; omega) | (simp_all; done)) ?_
  exact (ih N (by omega)).2 _ _ _ _ _ _ _ _ _ _ _ _ _ _ _ _ _ _ _ _ _ _ h hk
 ·intro k x0 x1 x2 x3 x4 x5 x6 x7 x8 x9 x10 x11 x12 x13 x14 x15 x16 x17 x18 x19 r h hk
  rcases N0 with _ | N
  · cases h
  first | rw [impl_ExecRun.l1] at h | simp only [impl_ExecRun.l1] at h | (unfold impl_ExecRun.l1 at h; dsimp only at h)
  refine loop_fold mC_61 mD_61 ?_
  refine (w_61_1 k x0 x1 x2 x3 x4 x5 x6 x7 x8 x9 x10 x11 x12 x13 x14 x15 x16 x17 x18 x19).trans ?_
  refine br_eti h rfl (fun c188 h => ?_) (fun c188 h => ?_)
  ·exact (ih N (by omega)).1 _ _ _ _ _ _ _ _ _ _ _ _ _ _ _ _ _ h hk
  refine br_g h rfl (fun c189 h => ?_)
  refine br_t (by first | (simp [c188]; done) | (simp; omega) | (simp_all; done)) ?_
  refine call_h 0 h (fun t8 e190 h => ?_)
  refine br_itn h (congrArg not dect) (fun c191 h => ?_) (fun c191 h => ?_)
  ·exact (ih N (by omega)).2 _ _ _ _ _ _ _ _ _ _ _ _ _ _ _ _ _ _ _ _ _ _ h hk
  refine call_h 0 h (fun t9 e192 h => ?_)
  cases h; exact hk
theorem okc_61 (args : List (AV tau)) (m : Mem tau) (κ : AV tau → Mem tau → Option Unit) (hh : c_61 args m κ = some ()) : ∃ av m1, κ av m1 = some () ∧ ToldA Try.prog TT (pnT 61) 61 args m av m1 := by
 obtain ⟨bx_, rw_⟩ := m
 unfold c_61 at hh
 simp only at hh
 split at hh
 case h_2 => cases hh
 rename_i b0 b1
 obtain ⟨l0, hx0, hh0⟩ := bO_some hh
 obtain ⟨l1, hx1, hh1⟩ := bO_some hh0
 have ex0 := asSl_some hx0
 have ex1 := asSl_some hx1
 subst ex0 ex1
 obtain ⟨N, t, h, hκ⟩ := callX_some hh1
 refine ⟨_, _, hκ, told_of_run pq okC_61 (fun _ _ _ => drawA_ok pq okC_61 hmix) (E := E_61) (fn := Try.f61) (body := B_61) (by kernel_rfl) (by kernel_rfl) (by kernel_rfl) (by rfl) (by exact Nat.le_of_ble_eq_true rfl) (fun k hk => ?_)⟩
 refine (w_61 l0 l1 k).trans ?_
 replace h : impl_ExecRun.f N l0 l1 = some t := h
 unfold impl_ExecRun.f at h
 refine call_h N h (fun t0 e193 h => ?_)
 refine br_etn h (congrArg not dect) (fun c194 h => ?_) (fun c194 h => ?_)
 ·rcases N with _ | N
  · cases h
  first | rw [impl_ExecRun.j0] at h | simp only [impl_ExecRun.j0] at h | (unfold impl_ExecRun.j0 at h; dsimp only at h)
  replace h := ite_t h (by first | assumption | omega | simp_all)
  cases h; exact hk
 refine call_h N h (fun t1 e195 h => ?_)
 rcases N with _ | N
 · cases h
 first | rw [impl_ExecRun.j0] at h | simp only [impl_ExecRun.j0] at h | (unfold impl_ExecRun.j0 at h; dsimp only at h)
 refine br_eti h dect (fun c196 h => ?_) (fun c196 h => ?_)
 ·exact (L_61 N).1 _ _ _ _ _ _ _ _ _ _ _ _ _ _ _ _ _ h hk
 cases h; exact hk
noncomputable def C_98 : Ctr tau Unit := ctrS 61 c_61 C_61
noncomputable def D_98 : Drw tau := drawA E_98 C_98
theorem okC_98 : CtrOk Try.prog TT pnT C_98 := ctrS_ok okC_61 okc_61
theorem mC_98 : CtrMono C_98 := ctrS_mono mC_61 mc_61
theorem mD_98 : DrMono D_98 := drawA_mono mC_98
noncomputable def B_98 : Code := Try.f98.body.getD .skip
theorem mc_98 (args : List (AV tau)) (m : Mem tau) (k k' : AV tau → Mem tau → Option Unit) (hk : ∀ av m, k av m = some () → k' av m = some ()) (h : c_98 args m k = some ()) : c_98 args m k' = some () := by
 unfold c_98 at h ⊢
 split at h
 · repeat' first | exact callX_mono (fun _ h => hk _ _ h) h | refine bO_mono (fun _ h => ?_) h
 · cases h
noncomputable def K_98_0 (k : AV tau → Mem tau → Option Unit) : Kon tau := (kBlock 0 (kS E_98 C_98 D_98 (codeP B_98 [1, 1, 1]) (kEnd E_98 Try.f98 k)))
def st_98_0 (x0 : Int) (x1 : (List Int)) (x2 : Int) (x3 : (List S37)) : St tau := ⟨tmL 48 0 [(0, .ptr 0 0), (3, .own 0 0), (4, .int .i64 x0)], ⟨[some (172, [.sl 5 x1, .int .i64 x2])], [some ⟨37, x3, 0⟩]⟩⟩
noncomputable def LP_98_0 (k : AV tau → Mem tau → Option Unit) (x0 : Int) (x1 : (List Int)) (x2 : Int) (x3 : (List S37)) : Option Unit := loopA E_98 (codeA E_98 C_98 D_98 (codeP B_98 [1, 1, 0, 1, 0, 0])) (codeP B_98 [1, 1, 0, 1, 0, 0]) (K_98_0 k) (st_98_0 x0 x1 x2 x3)
theorem w_98_0 (k : AV tau → Mem tau → Option Unit) (x0 : Int) (x1 : (List Int)) (x2 : Int) (x3 : (List S37)) : codeA E_98 C_98 D_98 (codeP B_98 [1, 1, 0, 1, 0, 0]) (kL E_98 C_98 D_98 (codeP B_98 [1, 1, 0, 1, 0, 0]) (K_98_0 k)) (st_98_0 x0 x1 x2 x3) = (brA (decide (x0 < ((x3.length : Nat) : Int))) (callX (fun n => spec_l15Rd_pick.f n x1 x2 (5 : Int)) fun t1 => callX (fun n => spec_l15Rd_num.f n x1 t1.2 ([(0 : Int), (1 : Int), (2 : Int), (5 : Int), (-(3 : Int)), (7 : Int), (100 : Int), (1000000 : Int), (-(1000000 : Int))] : List Int)) fun t2 => brA (decide ((0 : Int) ≤ x0)) (brA (decide (x0 < ((x3.length : Nat) : Int))) (LP_98_0 k (wrap64 (x0 + (1 : Int))) x1 t2.2 (List.set x3 (Int.toNat x0) (⟨t1.1, t2.1⟩ : S37))) (none)) (none)) (callX (fun n => spec_l15Rd_pick.f n x1 x2 (30 : Int)) fun t3 => brA (decide (t3.1 = (0 : Int))) (brA (decide ((3 : Int) ≤ ((x3.length : Nat) : Int))) (k (.own 0 0) ⟨[some (172, [.sl 5 x1, .int .i64 t3.2])], [some ⟨37, (List.take 3 x3), 0⟩]⟩) (none)) (brA (decide (t3.1 = (1 : Int))) (callX (fun n => spec_l15Rd_pick.f n x1 t3.2 (4 : Int)) fun t4 => callX (fun n => spec_l15Rd_num.f n x1 t4.2 ([(-(1 : Int)), (1000001 : Int)] : List Int)) fun t5 => brA (decide ((0 : Int) ≤ t4.1)) (brA (decide (t4.1 < ((x3.length : Nat) : Int))) (k (.own 0 0) ⟨[some (172, [.sl 5 x1, .int .i64 t5.2])], [some ⟨37, (List.set x3 (Int.toNat t4.1) (⟨t5.1, (rd_T37 x3 t4.1).f1⟩ : S37)), 0⟩]⟩) (none)) (none)) (brA (decide (t3.1 = (2 : Int))) (callX (fun n => spec_l15Rd_pick.f n x1 t3.2 (4 : Int)) fun t6 => callX (fun n => spec_l15Rd_num.f n x1 t6.2 ([(1000001 : Int), (-(1000001 : Int))] : List Int)) fun t7 => brA (decide ((0 : Int) ≤ t6.1)) (brA (decide (t6.1 < ((x3.length : Nat) : Int))) (k (.own 0 0) ⟨[some (172, [.sl 5 x1, .int .i64 t7.2])], [some ⟨37, (List.set x3 (Int.toNat t6.1) (⟨(rd_T37 x3 t6.1).f0, t7.1⟩ : S37)), 0⟩]⟩) (none)) (none)) (k (.own 0 0) ⟨[some (172, [.sl 5 x1, .int .i64 t3.2])], [some ⟨37, x3, 0⟩]⟩)))) : Option Unit) := by kernel_rfl
theorem w_98 (s0_0 : List Int) (s0_1 : Int) (k : AV tau → Mem tau → Option Unit) : fnA E_98 C_98 D_98 Try.f98 B_98 [.ptr 0 0] ⟨[some (172, [.sl 5 s0_0, .int .i64 s0_1])], []⟩ k = (callX (fun n => spec_BoxOpen.f ) fun t0 => LP_98_0 k (0 : Int) s0_0 s0_1 t0 : Option Unit) := by kernel_rfl
def S_98_0 (N : Nat) : Prop := ∀ (k : AV tau → Mem tau → Option Unit) (x0 : Int) (x1 : (List Int)) (x2 : Int) (x3 : (List S37)) (r : (List (S37)) × Int), spec_l1Boxes.l0 N (x3) (x0) (x1) (x2) = some r → k (.own 0 0) ⟨[some (172, [.sl 5 ((x1)), .int .i64 (r.2)])], [some ⟨37, r.1, 0⟩]⟩ = some () → LP_98_0 k x0 x1 x2 x3 = some ()
theorem L_98 (N : Nat) : S_98_0 N := by
 induction N using Nat.strongRecOn with | _ N0 ih =>
 skip
 intro k x0 x1 x2 x3 r h hk
 rcases N0 with _ | N
 · cases h
 first | rw [spec_l1Boxes.l0] at h | simp only [spec_l1Boxes.l0] at h | (unfold spec_l1Boxes.l0 at h; dsimp only at h)
 refine loop_fold mC_98 mD_98 ?_
 refine (w_98_0 k x0 x1 x2 x3).trans ?_
 refine br_ite h rfl (fun c37 h => ?_) (fun c37 h => ?_)
 ·refine call_h N h (fun t1 e38 h => ?_)
  refine call_h N h (fun t2 e39 h => ?_)
  refine br_g h rfl (fun c40 h => ?_)
  refine br_t (by first | (simp [c37]; done) | (simp; omega) | (simp_all; done)) ?_
  exact (ih N (by omega)) _ _ _ _ _ _ h hk
 refine call_h N h (fun t3 e41 h => ?_)
 refine br_ite h rfl (fun c42 h => ?_) (fun c42 h => ?_)
 ·refine br_g h rfl (fun c43 h => ?_)
  cases h; exact hk
 refine br_ite h rfl (fun c44 h => ?_) (fun c44 h => ?_)
 ·refine call_h N h (fun t4 e45 h => ?_)
  refine call_h N h (fun t5 e46 h => ?_)
  refine br_g h rfl (fun c47 h => ?_)
  refine br_g h rfl (fun c48 h => ?_)
  cases h; exact hk
 refine br_eti h rfl (fun c49 h => ?_) (fun c49 h => ?_)
 ·cases h; exact hk
 refine call_h N h (fun t6 e50 h => ?_)
 refine call_h N h (fun t7 e51 h => ?_)
 refine br_g h rfl (fun c52 h => ?_)
 refine br_g h rfl (fun c53 h => ?_)
 cases h; exact hk
theorem okc_98 (args : List (AV tau)) (m : Mem tau) (κ : AV tau → Mem tau → Option Unit) (hh : c_98 args m κ = some ()) : ∃ av m1, κ av m1 = some () ∧ ToldA Try.prog TT (pnT 98) 98 args m av m1 := by
 obtain ⟨bx_, rw_⟩ := m
 unfold c_98 at hh
 simp only at hh
 split at hh
 case h_2 => cases hh
 rename_i p0 t0_ c0_0 c0_1
 obtain ⟨u54, hx0, hh0⟩ := bO_some hh
 obtain ⟨u55, hx1, hh1⟩ := bO_some hh0
 obtain ⟨s0_0, hx2, hh2⟩ := bO_some hh1
 obtain ⟨s0_1, hx3, hh3⟩ := bO_some hh2
 have ex0 := asPtr_some hx0
 have ex1 := asT_some hx1
 have ex2 := asSl_some hx2
 have ex3 := asI_some hx3
 subst ex0 ex1 ex2 ex3
 obtain ⟨N, t, h, hκ⟩ := callX_some hh3
 refine ⟨_, _, hκ, told_of_run pq okC_98 (fun _ _ _ => drawA_ok pq okC_98 hmix) (E := E_98) (fn := Try.f98) (body := B_98) (by kernel_rfl) (by kernel_rfl) (by kernel_rfl) (by rfl) (by exact Nat.le_of_ble_eq_true rfl) (fun k hk => ?_)⟩
 refine (w_98 s0_0 s0_1 k).trans ?_
 replace h : spec_l1Boxes.f N s0_0 s0_1 = some t := h
 unfold spec_l1Boxes.f at h
 refine call_h 0 h (fun t0 e56 h => ?_)
 exact (L_98 N) _ _ _ _ _ _ h hk
noncomputable def C_100 : Ctr tau Unit := ctrS 98 c_98 C_98
noncomputable def D_100 : Drw tau := drawA E_100 C_100
theorem okC_100 : CtrOk Try.prog TT pnT C_100 := ctrS_ok okC_98 okc_98
theorem mC_100 : CtrMono C_100 := ctrS_mono mC_98 mc_98
theorem mD_100 : DrMono D_100 := drawA_mono mC_100
noncomputable def B_100 : Code := Try.f100.body.getD .skip
theorem mc_100 (args : List (AV tau)) (m : Mem tau) (k k' : AV tau → Mem tau → Option Unit) (hk : ∀ av m, k av m = some () → k' av m = some ()) (h : c_100 args m k = some ()) : c_100 args m k' = some () := by
 unfold c_100 at h ⊢
 split at h
 · repeat' first | exact callX_mono (fun _ h => hk _ _ h) h | refine bO_mono (fun _ h => ?_) h
 · cases h
noncomputable def K_100_0 (k : AV tau → Mem tau → Option Unit) : Kon tau := (kBlock 1 (kBlock 0 (kS E_100 C_100 D_100 (codeP B_100 [1, 1, 1, 1, 1]) (kEnd E_100 Try.f100 k))))
def st_100_0 (x0 : Int) (x1 : (List Int)) (x2 : Int) (x3 : (List S95)) : St tau := ⟨tmL 57 0 [(3, .own 0 0), (4, .int .i64 x0)], ⟨[some (172, [.sl 5 x1, .int .i64 x2])], [some ⟨95, x3, 0⟩]⟩⟩
noncomputable def LP_100_0 (k : AV tau → Mem tau → Option Unit) (x0 : Int) (x1 : (List Int)) (x2 : Int) (x3 : (List S95)) : Option Unit := loopA E_100 (codeA E_100 C_100 D_100 (codeP B_100 [1, 1, 1, 1, 0, 1, 0, 1, 1, 1, 1, 1, 1, 1, 0, 0, 0])) (codeP B_100 [1, 1, 1, 1, 0, 1, 0, 1, 1, 1, 1, 1, 1, 1, 0, 0, 0]) (K_100_0 k) (st_100_0 x0 x1 x2 x3)
theorem w_100_0 (k : AV tau → Mem tau → Option Unit) (x0 : Int) (x1 : (List Int)) (x2 : Int) (x3 : (List S95)) : codeA E_100 C_100 D_100 (codeP B_100 [1, 1, 1, 1, 0, 1, 0, 1, 1, 1, 1, 1, 1, 1, 0, 0, 0]) (kL E_100 C_100 D_100 (codeP B_100 [1, 1, 1, 1, 0, 1, 0, 1, 1, 1, 1, 1, 1, 1, 0, 0, 0]) (K_100_0 k)) (st_100_0 x0 x1 x2 x3) = (brA (decide (((x3.length : Nat) : Int) < (11 : Int))) (brA (decide ((0 : Int) ≤ x0)) (brA (decide (x0 < ((x3.length : Nat) : Int))) (brA (decide ((x3.length + 1) ≤ 4398046511104)) (LP_100_0 k x0 x1 x2 (x3 ++ ([(⟨(rd_T95 x3 x0).f0, (rd_T95 x3 x0).f1, (rd_T95 x3 x0).f2, (rd_T95 x3 x0).f3⟩ : S95)] : List S95))) (none)) (none)) (none)) (k (.own 0 0) ⟨[some (172, [.sl 5 x1, .int .i64 x2])], [some ⟨95, x3, 0⟩]⟩) : Option Unit) := by kernel_rfl
theorem w_100 (s0_0 : List Int) (s0_1 : Int) (k : AV tau → Mem tau → Option Unit) : fnA E_100 C_100 D_100 Try.f100 B_100 [.ptr 0 0] ⟨[some (172, [.sl 5 s0_0, .int .i64 s0_1])], []⟩ k = (callX (fun n => spec_l2Prog.f n s0_0 s0_1) fun t0 => brA (decide (((t0.1.length : Nat) : Int) = (0 : Int))) (k (.own 0 0) ⟨[some (172, [.sl 5 s0_0, .int .i64 t0.2])], [some ⟨95, t0.1, 0⟩]⟩) (callX (fun n => spec_l15Rd_pick.f n s0_0 t0.2 ((t0.1.length : Nat) : Int)) fun t1 => callX (fun n => spec_l15Rd_pick.f n s0_0 t1.2 (40 : Int)) fun t2 => brA (decide (t2.1 = (0 : Int))) (callX (fun n => spec_l15Rd_num.f n s0_0 t2.2 ([(0 : Int), (8 : Int)] : List Int)) fun t3 => brA (decide ((0 : Int) ≤ t1.1)) (brA (decide (t1.1 < ((t0.1.length : Nat) : Int))) (k (.own 0 0) ⟨[some (172, [.sl 5 s0_0, .int .i64 t3.2])], [some ⟨95, (List.set t0.1 (Int.toNat t1.1) (⟨t3.1, (rd_T95 t0.1 t1.1).f1, (rd_T95 t0.1 t1.1).f2, (rd_T95 t0.1 t1.1).f3⟩ : S95)), 0⟩]⟩) (none)) (none)) (brA (decide (t2.1 = (1 : Int))) (callX (fun n => spec_l15Rd_num.f n s0_0 t2.2 ([(-(1 : Int)), (4 : Int)] : List Int)) fun t4 => brA (decide ((0 : Int) ≤ t1.1)) (brA (decide (t1.1 < ((t0.1.length : Nat) : Int))) (k (.own 0 0) ⟨[some (172, [.sl 5 s0_0, .int .i64 t4.2])], [some ⟨95, (List.set t0.1 (Int.toNat t1.1) (⟨(rd_T95 t0.1 t1.1).f0, t4.1, (rd_T95 t0.1 t1.1).f2, (rd_T95 t0.1 t1.1).f3⟩ : S95)), 0⟩]⟩) (none)) (none)) (brA (decide (t2.1 = (2 : Int))) (callX (fun n => spec_l15Rd_num.f n s0_0 t2.2 ([(-(1 : Int)), (11 : Int), (2000000 : Int)] : List Int)) fun t5 => brA (decide ((0 : Int) ≤ t1.1)) (brA (decide (t1.1 < ((t0.1.length : Nat) : Int))) (k (.own 0 0) ⟨[some (172, [.sl 5 s0_0, .int .i64 t5.2])], [some ⟨95, (List.set t0.1 (Int.toNat t1.1) (⟨(rd_T95 t0.1 t1.1).f0, (rd_T95 t0.1 t1.1).f1, (rd_T95 t0.1 t1.1).f2, t5.1⟩ : S95)), 0⟩]⟩) (none)) (none)) (brA (decide (t2.1 = (3 : Int))) (LP_100_0 k t1.1 s0_0 t2.2 t0.1) (k (.own 0 0) ⟨[some (172, [.sl 5 s0_0, .int .i64 t2.2])], [some ⟨95, t0.1, 0⟩]⟩))))) : Option Unit) := by kernel_rfl
def S_100_0 (N : Nat) : Prop := ∀ (k : AV tau → Mem tau → Option Unit) (x0 : Int) (x1 : (List Int)) (x2 : Int) (x3 : (List S95)) (r : (List (S95)) × Int), spec_l2Bent.l0 N (x3) (x0) (x1) (x2) = some r → k (.own 0 0) ⟨[some (172, [.sl 5 ((x1)), .int .i64 (r.2)])], [some ⟨95, r.1, 0⟩]⟩ = some () → LP_100_0 k x0 x1 x2 x3 = some ()
theorem L_100 (N : Nat) : S_100_0 N := by
 induction N using Nat.strongRecOn with | _ N0 ih =>
 skip
 intro k x0 x1 x2 x3 r h hk
 rcases N0 with _ | N
 · cases h
 first | rw [spec_l2Bent.l0] at h | simp only [spec_l2Bent.l0] at h | (unfold spec_l2Bent.l0 at h; dsimp only at h)
 refine loop_fold mC_100 mD_100 ?_
 refine (w_100_0 k x0 x1 x2 x3).trans ?_
 refine br_eti h rfl (fun c43 h => ?_) (fun c43 h => ?_)
 ·cases h; exact hk
 refine br_g h rfl (fun c44 h => ?_)
 refine br_g h rfl (fun c45 h => ?_)
 refine br_g h (by first | rfl | exact dect | exact (congrArg not dect) | (simp; done) | (simp [beqI]; done) | (simp; omega)) (fun c46 h => ?_)
 exact (ih N (by omega)) _ _ _ _ _ _ h hk
theorem okc_100 (args : List (AV tau)) (m : Mem tau) (κ : AV tau → Mem tau → Option Unit) (hh : c_100 args m κ = some ()) : ∃ av m1, κ av m1 = some () ∧ ToldA Try.prog TT (pnT 100) 100 args m av m1 := by
 obtain ⟨bx_, rw_⟩ := m
 unfold c_100 at hh
 simp only at hh
 split at hh
 case h_2 => cases hh
 rename_i p0 t0_ c0_0 c0_1
 obtain ⟨u47, hx0, hh0⟩ := bO_some hh
 obtain ⟨u48, hx1, hh1⟩ := bO_some hh0
 obtain ⟨s0_0, hx2, hh2⟩ := bO_some hh1
 obtain ⟨s0_1, hx3, hh3⟩ := bO_some hh2
 have ex0 := asPtr_some hx0
 have ex1 := asT_some hx1
 have ex2 := asSl_some hx2
 have ex3 := asI_some hx3
 subst ex0 ex1 ex2 ex3
 obtain ⟨N, t, h, hκ⟩ := callX_some hh3
 refine ⟨_, _, hκ, told_of_run pq okC_100 (fun _ _ _ => drawA_ok pq okC_100 hmix) (E := E_100) (fn := Try.f100) (body := B_100) (by kernel_rfl) (by kernel_rfl) (by kernel_rfl) (by rfl) (by exact Nat.le_of_ble_eq_true rfl) (fun k hk => ?_)⟩
 refine (w_100 s0_0 s0_1 k).trans ?_
 replace h : spec_l2Bent.f N s0_0 s0_1 = some t := h
 unfold spec_l2Bent.f at h
 refine call_h N h (fun t0 e49 h => ?_)
 refine br_ite h rfl (fun c50 h => ?_) (fun c50 h => ?_)
 ·cases h; exact hk
 refine call_h N h (fun t1 e51 h => ?_)
 refine call_h N h (fun t2 e52 h => ?_)
 refine br_ite h rfl (fun c53 h => ?_) (fun c53 h => ?_)
 ·refine call_h N h (fun t3 e54 h => ?_)
  refine br_g h rfl (fun c55 h => ?_)
  refine br_g h rfl (fun c56 h => ?_)
  cases h; exact hk
 refine br_ite h rfl (fun c57 h => ?_) (fun c57 h => ?_)
 ·refine call_h N h (fun t4 e58 h => ?_)
  refine br_g h rfl (fun c59 h => ?_)
  refine br_g h rfl (fun c60 h => ?_)
  cases h; exact hk
 refine br_eti h rfl (fun c61 h => ?_) (fun c61 h => ?_)
 ·refine br_ite h rfl (fun c62 h => ?_) (fun c62 h => ?_)
  ·exact (L_100 N) _ _ _ _ _ _ h hk
  cases h; exact hk
 refine call_h N h (fun t5 e63 h => ?_)
 refine br_g h rfl (fun c64 h => ?_)
 refine br_g h rfl (fun c65 h => ?_)
 cases h; exact hk
noncomputable def C_130 : Ctr tau Unit := ctrS 100 c_100 C_100
noncomputable def D_130 : Drw tau := drawA E_130 C_130
theorem okC_130 : CtrOk Try.prog TT pnT C_130 := ctrS_ok okC_100 okc_100
theorem mC_130 : CtrMono C_130 := ctrS_mono mC_100 mc_100
theorem mD_130 : DrMono D_130 := drawA_mono mC_130
noncomputable def B_130 : Code := Try.f130.body.getD .skip
theorem mc_130 (args : List (AV tau)) (m : Mem tau) (k k' : AV tau → Mem tau → Option Unit) (hk : ∀ av m, k av m = some () → k' av m = some ()) (h : c_130 args m k = some ()) : c_130 args m k' = some () := by
 unfold c_130 at h ⊢
 split at h
 · repeat' first | exact callX_mono (fun _ h => hk _ _ h) h | refine bO_mono (fun _ h => ?_) h
 · cases h
theorem w_130 (l0 : List Int) (k : AV tau → Mem tau → Option Unit) : fnA E_130 C_130 D_130 Try.f130 B_130 [.sl 5 l0] ⟨[], []⟩ k = (callX (fun n => spec_l15Open.f l0) fun t0 => callX (fun n => spec_l1Boxes.f n t0.1 t0.2) fun t1 => callX (fun n => spec_l2Bent.f n t0.1 t1.2) fun t2 => k (.tup [.own 0 0, .own 1 0]) ⟨[], [some ⟨37, t1.1, 0⟩, some ⟨95, t2.1, 0⟩]⟩ : Option Unit) := by kernel_rfl
theorem okc_130 (args : List (AV tau)) (m : Mem tau) (κ : AV tau → Mem tau → Option Unit) (hh : c_130 args m κ = some ()) : ∃ av m1, κ av m1 = some () ∧ ToldA Try.prog TT (pnT 130) 130 args m av m1 := by
 obtain ⟨bx_, rw_⟩ := m
 unfold c_130 at hh
 simp only at hh
 split at hh
 case h_2 => cases hh
 rename_i b0
 obtain ⟨l0, hx0, hh0⟩ := bO_some hh
 have ex0 := asSl_some hx0
 subst ex0
 obtain ⟨N, t, h, hκ⟩ := callX_some hh0
 refine ⟨_, _, hκ, told_of_run pq okC_130 (fun _ _ _ => drawA_ok pq okC_130 hmix) (E := E_130) (fn := Try.f130) (body := B_130) (by kernel_rfl) (by kernel_rfl) (by kernel_rfl) (by rfl) (by exact Nat.le_of_ble_eq_true rfl) (fun k hk => ?_)⟩
 refine (w_130 l0 k).trans ?_
 replace h : spec_DrawExecRun.f N l0 = some t := h
 unfold spec_DrawExecRun.f at h
 refine call_h 0 h (fun t0 e4 h => ?_)
 refine call_h N h (fun t1 e5 h => ?_)
 refine call_h N h (fun t2 e6 h => ?_)
 cases h; exact hk
noncomputable def C_62 : Ctr tau Unit := ctrS 130 c_130 C_130
noncomputable def D_62 : Drw tau := drawA E_62 C_62
theorem okC_62 : CtrOk Try.prog TT pnT C_62 := ctrS_ok okC_130 okc_130
theorem mC_62 : CtrMono C_62 := ctrS_mono mC_130 mc_130
theorem mD_62 : DrMono D_62 := drawA_mono mC_62
noncomputable def B_62 : Code := Try.f62.body.getD .skip
theorem mc_62 (args : List (AV tau)) (m : Mem tau) (k k' : AV tau → Mem tau → Option Unit) (hk : ∀ av m, k av m = some () → k' av m = some ()) (h : c_62 args m k = some ()) : c_62 args m k' = some () := by
 unfold c_62 at h ⊢
 split at h
 · repeat' first | exact callX_mono (fun _ h => hk _ _ h) h | refine bO_mono (fun _ h => ?_) h
 · cases h
theorem w_62 (l0 : List Int) (k : AV tau → Mem tau → Option Unit) : fnA E_62 C_62 D_62 Try.f62 B_62 [.sl 5 l0] ⟨[], []⟩ k = (callX (fun n => spec_DrawExecRun.f n l0) fun t0 => k (.tup [.own 0 0, .own 1 0]) ⟨[], [some ⟨37, t0.1, 0⟩, some ⟨95, t0.2, 0⟩]⟩ : Option Unit) := by kernel_rfl
theorem okc_62 (args : List (AV tau)) (m : Mem tau) (κ : AV tau → Mem tau → Option Unit) (hh : c_62 args m κ = some ()) : ∃ av m1, κ av m1 = some () ∧ ToldA Try.prog TT (pnT 62) 62 args m av m1 := by
 obtain ⟨bx_, rw_⟩ := m
 unfold c_62 at hh
 simp only at hh
 split at hh
 case h_2 => cases hh
 rename_i b0
 obtain ⟨l0, hx0, hh0⟩ := bO_some hh
 have ex0 := asSl_some hx0
 subst ex0
 obtain ⟨N, t, h, hκ⟩ := callX_some hh0
 refine ⟨_, _, hκ, told_of_run pq okC_62 (fun _ _ _ => drawA_ok pq okC_62 hmix) (E := E_62) (fn := Try.f62) (body := B_62) (by kernel_rfl) (by kernel_rfl) (by kernel_rfl) (by rfl) (by exact Nat.le_of_ble_eq_true rfl) (fun k hk => ?_)⟩
 refine (w_62 l0 k).trans ?_
 replace h : spec_DrawSerialOne.f N l0 = some t := h
 unfold spec_DrawSerialOne.f at h
 refine call_h N h (fun t0 e2 h => ?_)
 cases h; exact hk
noncomputable def C_63 : Ctr tau Unit := ctrS 62 c_62 C_62
noncomputable def D_63 : Drw tau := drawA E_63 C_63
theorem okC_63 : CtrOk Try.prog TT pnT C_63 := ctrS_ok okC_62 okc_62
theorem mC_63 : CtrMono C_63 := ctrS_mono mC_62 mc_62
theorem mD_63 : DrMono D_63 := drawA_mono mC_63
noncomputable def B_63 : Code := Try.f63.body.getD .skip
theorem mc_63 (args : List (AV tau)) (m : Mem tau) (k k' : AV tau → Mem tau → Option Unit) (hk : ∀ av m, k av m = some () → k' av m = some ()) (h : c_63 args m k = some ()) : c_63 args m k' = some () := by
 unfold c_63 at h ⊢
 split at h
 · repeat' first | exact callX_mono (fun _ h => hk _ _ h) h | refine bO_mono (fun _ h => ?_) h
 · cases h
theorem w_63 (l0 : List S37) (l1 : List S95) (k : AV tau → Mem tau → Option Unit) : fnA E_63 C_63 D_63 Try.f63 B_63 [.sl 37 l0, .sl 95 l1] ⟨[], []⟩ k = (callX (fun n => impl_ExecRun.f n l0 l1) fun t0 => brA (decide (t0.2.2.2 = (3 : Int))) (k (.tup [.own 0 0, .int .i64 (0 : Int), .int .i64 (3 : Int)]) ⟨[], [some ⟨37, ([] : List S37), 0⟩]⟩) (callX (fun n => impl_ExecDo.f n l0 t0.1 t0.2.1 t0.2.2.1 t0.2.2.2) fun t1 => k (.tup [.own 0 0, .int .i64 t0.2.2.1, .int .i64 t0.2.2.2]) ⟨[], [some ⟨37, t1, 0⟩]⟩) : Option Unit) := by kernel_rfl
theorem okc_63 (args : List (AV tau)) (m : Mem tau) (κ : AV tau → Mem tau → Option Unit) (hh : c_63 args m κ = some ()) : ∃ av m1, κ av m1 = some () ∧ ToldA Try.prog TT (pnT 63) 63 args m av m1 := by
 obtain ⟨bx_, rw_⟩ := m
 unfold c_63 at hh
 simp only at hh
 split at hh
 case h_2 => cases hh
 rename_i b0 b1
 obtain ⟨l0, hx0, hh0⟩ := bO_some hh
 obtain ⟨l1, hx1, hh1⟩ := bO_some hh0
 have ex0 := asSl_some hx0
 have ex1 := asSl_some hx1
 subst ex0 ex1
 obtain ⟨N, t, h, hκ⟩ := callX_some hh1
 refine ⟨_, _, hκ, told_of_run pq okC_63 (fun _ _ _ => drawA_ok pq okC_63 hmix) (E := E_63) (fn := Try.f63) (body := B_63) (by kernel_rfl) (by kernel_rfl) (by kernel_rfl) (by rfl) (by exact Nat.le_of_ble_eq_true rfl) (fun k hk => ?_)⟩
 refine (w_63 l0 l1 k).trans ?_
 replace h : impl_SerialOne.f N l0 l1 = some t := h
 unfold impl_SerialOne.f at h
 refine call_h N h (fun t0 e4 h => ?_)
 refine br_ite h rfl (fun c5 h => ?_) (fun c5 h => ?_)
 ·cases h; exact hk
 refine call_h N h (fun t1 e6 h => ?_)
 cases h; exact hk
noncomputable def C_13 : Ctr tau Unit := ctrS 63 c_63 C_63
noncomputable def D_13 : Drw tau := drawA E_13 C_13
theorem okC_13 : CtrOk Try.prog TT pnT C_13 := ctrS_ok okC_63 okc_63
theorem mC_13 : CtrMono C_13 := ctrS_mono mC_63 mc_63
theorem mD_13 : DrMono D_13 := drawA_mono mC_13
noncomputable def B_13 : Code := Try.f13.body.getD .skip
theorem mc_13 (args : List (AV tau)) (m : Mem tau) (k k' : AV tau → Mem tau → Option Unit) (hk : ∀ av m, k av m = some () → k' av m = some ()) (h : c_13 args m k = some ()) : c_13 args m k' = some () := by
 unfold c_13 at h ⊢
 split at h
 · repeat' first | exact callX_mono (fun _ h => hk _ _ h) h | refine bO_mono (fun _ h => ?_) h
 · cases h
noncomputable def K_13_0 (k : AV tau → Mem tau → Option Unit) : Kon tau := (kBlock 0 (kS E_13 C_13 D_13 (codeP B_13 [1, 1, 1, 1, 1, 1, 1, 1, 1, 1, 1]) (kEnd E_13 Try.f13 k)))
def st_13_0 (x0 : (List Int)) (x1 : Int) (x2 : Int) (x3 : Int) (x4 : Int) (x5 : (List S37)) (x6 : (List S95)) (x7 : (List S84)) (x8 : (List S39)) (x9 : (List S82)) : St tau := ⟨tmL 168 0 [(1, .sl 5 x0), (6, .ptr 0 0), (7, .own 0 0), (8, .own 1 0), (9, .ptr 1 0), (10, .int .i64 x1)], ⟨[some (69, [.int .i64 x2, .own 0 0, .own 2 0]), some (26, [.own 3 0, .own 4 0, .int .i64 x3, .int .i64 x4])], [some ⟨37, x5, 0⟩, some ⟨95, x6, 0⟩, some ⟨84, x7, 0⟩, some ⟨39, x8, 0⟩, some ⟨82, x9, 0⟩]⟩⟩
noncomputable def LP_13_0 (k : AV tau → Mem tau → Option Unit) (x0 : (List Int)) (x1 : Int) (x2 : Int) (x3 : Int) (x4 : Int) (x5 : (List S37)) (x6 : (List S95)) (x7 : (List S84)) (x8 : (List S39)) (x9 : (List S82)) : Option Unit := loopA E_13 (codeA E_13 C_13 D_13 (codeP B_13 [1, 1, 1, 1, 1, 1, 1, 1, 1, 1, 0, 1, 0, 0])) (codeP B_13 [1, 1, 1, 1, 1, 1, 1, 1, 1, 1, 0, 1, 0, 0]) (K_13_0 k) (st_13_0 x0 x1 x2 x3 x4 x5 x6 x7 x8 x9)
def st_13_1 (x0 : (List Int)) (x1 : Int) (x2 : Int) (x3 : Int) (x4 : Int) (x5 : (List S37)) (x6 : (List S95)) (x7 : (List S37)) (x8 : (List S84)) (x9 : (List S39)) (x10 : (List S82)) : St tau := ⟨tmL 168 0 [(1, .sl 5 x0), (6, .ptr 0 0), (7, .own 0 0), (8, .own 1 0), (9, .ptr 1 0), (10, .int .i64 x1)], ⟨[some (69, [.int .i64 x2, .own 2 0, .own 3 0]), some (26, [.own 4 0, .own 5 0, .int .i64 x3, .int .i64 x4])], [some ⟨37, x5, 0⟩, some ⟨95, x6, 0⟩, some ⟨37, x7, 0⟩, some ⟨84, x8, 0⟩, some ⟨39, x9, 0⟩, some ⟨82, x10, 0⟩]⟩⟩
noncomputable def LP_13_1 (k : AV tau → Mem tau → Option Unit) (x0 : (List Int)) (x1 : Int) (x2 : Int) (x3 : Int) (x4 : Int) (x5 : (List S37)) (x6 : (List S95)) (x7 : (List S37)) (x8 : (List S84)) (x9 : (List S39)) (x10 : (List S82)) : Option Unit := loopA E_13 (codeA E_13 C_13 D_13 (codeP B_13 [1, 1, 1, 1, 1, 1, 1, 1, 1, 1, 0, 1, 0, 0])) (codeP B_13 [1, 1, 1, 1, 1, 1, 1, 1, 1, 1, 0, 1, 0, 0]) (K_13_0 k) (st_13_1 x0 x1 x2 x3 x4 x5 x6 x7 x8 x9 x10)
theorem w_13_0 (k : AV tau → Mem tau → Option Unit) (x0 : (List Int)) (x1 : Int) (x2 : Int) (x3 : Int) (x4 : Int) (x5 : (List S37)) (x6 : (List S95)) (x7 : (List S84)) (x8 : (List S39)) (x9 : (List S82)) : codeA E_13 C_13 D_13 (codeP B_13 [1, 1, 1, 1, 1, 1, 1, 1, 1, 1, 0, 1, 0, 0]) (kL E_13 C_13 D_13 (codeP B_13 [1, 1, 1, 1, 1, 1, 1, 1, 1, 1, 0, 1, 0, 0]) (K_13_0 k)) (st_13_0 x0 x1 x2 x3 x4 x5 x6 x7 x8 x9) = (brA (decide (x1 < ((x8.length : Nat) : Int))) (brA (decide ((0 : Int) ≤ x1)) (brA (decide (x1 < ((x8.length : Nat) : Int))) (brA (decide ((0 : Int) ≤ (rd_T39 x8 x1).f0)) (brA (decide ((rd_T39 x8 x1).f0 < ((x5.length : Nat) : Int))) (brA (decide ((0 : Int) ≤ (rd_T39 x8 x1).f0)) (brA (decide ((rd_T39 x8 x1).f0 < ((x5.length : Nat) : Int))) (brA (decide ((rd_T37 x5 ((rd_T39 x8 x1).f0)).f0 = (rd_T37 x5 ((rd_T39 x8 x1).f0)).f0)) (brA (decide ((0 : Int) ≤ (rd_T39 x8 x1).f0)) (brA (decide ((rd_T39 x8 x1).f0 < ((x5.length : Nat) : Int))) (brA (decide ((0 : Int) ≤ (rd_T39 x8 x1).f0)) (brA (decide ((rd_T39 x8 x1).f0 < ((x5.length : Nat) : Int))) (brA (!(((rd_T37 x5 ((rd_T39 x8 x1).f0)).f0 == (rd_T37 x5 ((rd_T39 x8 x1).f0)).f0) && ((rd_T37 x5 ((rd_T39 x8 x1).f0)).f1 == (rd_T37 x5 ((rd_T39 x8 x1).f0)).f1))) (k (.bool true) ⟨[], []⟩) (LP_13_0 k x0 (wrap64 (x1 + (1 : Int))) x2 x3 x4 x5 x6 x7 x8 x9)) (none)) (none)) (none)) (none)) (LP_13_0 k x0 (wrap64 (x1 + (1 : Int))) x2 x3 x4 x5 x6 x7 x8 x9)) (none)) (none)) (none)) (none)) (none)) (none)) (callX (fun n => impl_CertApply.f n x2 x5 x7 false (Int.tmod ((x0.length : Nat) : Int) (3 : Int)) (900 : Int) x8 x9 x3 x4) fun t7 => callX (fun n => impl_SerialOne.f n x5 x6) fun t8 => brA (decide (t7.2.2.2 = (0 : Int))) (callX (fun n => impl_BoxSame.f n t7.2.1 t8.1) fun t9 => brA t9 (brA (decide (t8.2.2 = (0 : Int))) (brA (decide (t8.2.1 = x3)) (k (.bool (decide (t7.1 = (wrap64 (x2 + (1 : Int)))))) ⟨[], []⟩) (k (.bool false) ⟨[], []⟩)) (k (.bool false) ⟨[], []⟩)) (k (.bool false) ⟨[], []⟩)) (brA (decide (t7.2.2.2 = (2 : Int))) (callX (fun n => impl_BoxSame.f n t7.2.1 x5) fun t10 => brA t10 (k (.bool (decide (t8.2.2 = x4))) ⟨[], []⟩) (k (.bool false) ⟨[], []⟩)) (brA (decide (t7.2.2.2 = (1 : Int))) (callX (fun n => impl_BoxSame.f n t7.2.1 x5) fun t11 => k (.bool t11) ⟨[], []⟩) (k (.bool false) ⟨[], []⟩)))) : Option Unit) := by kernel_rfl
theorem w_13_1 (k : AV tau → Mem tau → Option Unit) (x0 : (List Int)) (x1 : Int) (x2 : Int) (x3 : Int) (x4 : Int) (x5 : (List S37)) (x6 : (List S95)) (x7 : (List S37)) (x8 : (List S84)) (x9 : (List S39)) (x10 : (List S82)) : codeA E_13 C_13 D_13 (codeP B_13 [1, 1, 1, 1, 1, 1, 1, 1, 1, 1, 0, 1, 0, 0]) (kL E_13 C_13 D_13 (codeP B_13 [1, 1, 1, 1, 1, 1, 1, 1, 1, 1, 0, 1, 0, 0]) (K_13_0 k)) (st_13_1 x0 x1 x2 x3 x4 x5 x6 x7 x8 x9 x10) = (brA (decide (x1 < ((x9.length : Nat) : Int))) (brA (decide ((0 : Int) ≤ x1)) (brA (decide (x1 < ((x9.length : Nat) : Int))) (brA (decide ((0 : Int) ≤ (rd_T39 x9 x1).f0)) (brA (decide ((rd_T39 x9 x1).f0 < ((x5.length : Nat) : Int))) (brA (decide ((0 : Int) ≤ (rd_T39 x9 x1).f0)) (brA (decide ((rd_T39 x9 x1).f0 < ((x7.length : Nat) : Int))) (brA (decide ((rd_T37 x5 ((rd_T39 x9 x1).f0)).f0 = (rd_T37 x7 ((rd_T39 x9 x1).f0)).f0)) (brA (decide ((0 : Int) ≤ (rd_T39 x9 x1).f0)) (brA (decide ((rd_T39 x9 x1).f0 < ((x5.length : Nat) : Int))) (brA (decide ((0 : Int) ≤ (rd_T39 x9 x1).f0)) (brA (decide ((rd_T39 x9 x1).f0 < ((x7.length : Nat) : Int))) (brA (!(((rd_T37 x5 ((rd_T39 x9 x1).f0)).f0 == (rd_T37 x7 ((rd_T39 x9 x1).f0)).f0) && ((rd_T37 x5 ((rd_T39 x9 x1).f0)).f1 == (rd_T37 x7 ((rd_T39 x9 x1).f0)).f1))) (k (.bool true) ⟨[], []⟩) (LP_13_1 k x0 (wrap64 (x1 + (1 : Int))) x2 x3 x4 x5 x6 x7 x8 x9 x10)) (none)) (none)) (none)) (none)) (LP_13_1 k x0 (wrap64 (x1 + (1 : Int))) x2 x3 x4 x5 x6 x7 x8 x9 x10)) (none)) (none)) (none)) (none)) (none)) (none)) (callX (fun n => impl_CertApply.f n x2 x7 x8 false (Int.tmod ((x0.length : Nat) : Int) (3 : Int)) (900 : Int) x9 x10 x3 x4) fun t12 => callX (fun n => impl_SerialOne.f n x7 x6) fun t13 => brA (decide (t12.2.2.2 = (0 : Int))) (callX (fun n => impl_BoxSame.f n t12.2.1 t13.1) fun t14 => brA t14 (brA (decide (t13.2.2 = (0 : Int))) (brA (decide (t13.2.1 = x3)) (k (.bool (decide (t12.1 = (wrap64 (x2 + (1 : Int)))))) ⟨[], []⟩) (k (.bool false) ⟨[], []⟩)) (k (.bool false) ⟨[], []⟩)) (k (.bool false) ⟨[], []⟩)) (brA (decide (t12.2.2.2 = (2 : Int))) (callX (fun n => impl_BoxSame.f n t12.2.1 x7) fun t15 => brA t15 (k (.bool (decide (t13.2.2 = x4))) ⟨[], []⟩) (k (.bool false) ⟨[], []⟩)) (brA (decide (t12.2.2.2 = (1 : Int))) (callX (fun n => impl_BoxSame.f n t12.2.1 x7) fun t16 => k (.bool t16) ⟨[], []⟩) (k (.bool false) ⟨[], []⟩)))) : Option Unit) := by kernel_rfl
theorem w_13 (l0 : List Int) (l1 : List Int) (k : AV tau → Mem tau → Option Unit) : fnA E_13 C_13 D_13 Try.f13 B_13 [.sl 5 l0, .sl 5 l1] ⟨[], []⟩ k = (brA (decide (((l0.length : Nat) : Int) > (1048576 : Int))) (k (.bool true) ⟨[], []⟩) (brA (decide (((l1.length : Nat) : Int) > (1048576 : Int))) (k (.bool true) ⟨[], []⟩) (callX (fun n => spec_DrawCertFold.f n l0) fun t0 => callX (fun n => impl_CertFold.f n t0) fun t1 => callX (fun n => spec_CertFold.f n t0) fun t2 => callX (fun n => impl_CertSame.f n t1.1 t1.2.1 t1.2.2 t2.1 t2.2.1 t2.2.2) fun t3 => brA (!t3) (k (.bool false) ⟨[], []⟩) (brA (decide (((t1.2.1.length : Nat) : Int) = (0 : Int))) (k (.bool true) ⟨[], []⟩) (callX (fun n => spec_DrawSerialOne.f n l1) fun t4 => brA (decide ((Int.tmod ((l1.length : Nat) : Int) (2 : Int)) = (0 : Int))) (callX (fun n => impl_ExecRun.f n t1.2.1 t4.2) fun t5 => brA (decide (t5.2.2.2 = (3 : Int))) (k (.bool true) ⟨[], []⟩) (brA (decide (t1.1 = (40 : Int))) (k (.bool true) ⟨[], []⟩) (brA (!(decide (((t1.2.1.length : Nat) : Int) = (4 : Int)))) (k (.bool true) ⟨[], []⟩) (LP_13_0 k l1 (0 : Int) t1.1 t5.2.2.1 t5.2.2.2 t1.2.1 t4.2 t1.2.2 t5.1 t5.2.1)))) (callX (fun n => impl_ExecRun.f n t4.1 t4.2) fun t6 => brA (decide (t6.2.2.2 = (3 : Int))) (k (.bool true) ⟨[], []⟩) (brA (decide (t1.1 = (40 : Int))) (k (.bool true) ⟨[], []⟩) (brA (!(decide (((t4.1.length : Nat) : Int) = (4 : Int)))) (k (.bool true) ⟨[], []⟩) (LP_13_1 k l1 (0 : Int) t1.1 t6.2.2.1 t6.2.2.2 t4.1 t4.2 t1.2.1 t1.2.2 t6.1 t6.2.1)))))))) : Option Unit) := by kernel_rfl
def S_13_0 (N : Nat) : Prop := ∀ (k : AV tau → Mem tau → Option Unit) (x0 : (List Int)) (x1 : Int) (x2 : Int) (x3 : Int) (x4 : Int) (x5 : (List S37)) (x6 : (List S95)) (x7 : (List S84)) (x8 : (List S39)) (x9 : (List S82)) (r : Bool), laws_FnCert.l0 N (x0) (x1) (x2) (x3) (x4) (x5) (x6) (x7) (x8) (x9) = some r → k (.bool (r)) ⟨[], []⟩ = some () → LP_13_0 k x0 x1 x2 x3 x4 x5 x6 x7 x8 x9 = some ()
def S_13_1 (N : Nat) : Prop := ∀ (k : AV tau → Mem tau → Option Unit) (x0 : (List Int)) (x1 : Int) (x2 : Int) (x3 : Int) (x4 : Int) (x5 : (List S37)) (x6 : (List S95)) (x7 : (List S37)) (x8 : (List S84)) (x9 : (List S39)) (x10 : (List S82)) (r : Bool), laws_FnCert.l1 N (x0) (x1) (x2) (x3) (x4) (x5) (x6) (x7) (x8) (x9) (x10) = some r → k (.bool (r)) ⟨[], []⟩ = some () → LP_13_1 k x0 x1 x2 x3 x4 x5 x6 x7 x8 x9 x10 = some ()
theorem L_13 (N : Nat) : S_13_0 N ∧ S_13_1 N := by
 induction N using Nat.strongRecOn with | _ N0 ih =>
 refine ⟨?_, ?_⟩
 ·intro k x0 x1 x2 x3 x4 x5 x6 x7 x8 x9 r h hk
  rcases N0 with _ | N
  · cases h
  first | rw [laws_FnCert.l0] at h | simp only [laws_FnCert.l0] at h | (unfold laws_FnCert.l0 at h; dsimp only at h)
  refine loop_fold mC_13 mD_13 ?_
  refine (w_13_0 k x0 x1 x2 x3 x4 x5 x6 x7 x8 x9).trans ?_
  refine br_eti h rfl (fun c137 h => ?_) (fun c137 h => ?_)
  ·refine call_h N h (fun t7 e138 h => ?_)
   refine call_h N h (fun t8 e139 h => ?_)
   refine br_ite h rfl (fun c140 h => ?_) (fun c140 h => ?_)
   ·refine call_h N h (fun t9 e141 h => ?_)
    refine br_eti h dect (fun c142 h => ?_) (fun c142 h => ?_)
    ·cases h; exact hk
    refine br_eti h rfl (fun c143 h => ?_) (fun c143 h => ?_)
    ·cases h; exact hk
    refine br_eti h rfl (fun c144 h => ?_) (fun c144 h => ?_)
    ·cases h; exact hk
    cases h; exact hk
   refine br_eti h rfl (fun c145 h => ?_) (fun c145 h => ?_)
   ·refine br_eti h rfl (fun c146 h => ?_) (fun c146 h => ?_)
    ·cases h; exact hk
    refine call_h N h (fun t11 e147 h => ?_)
    cases h; exact hk
   refine call_h N h (fun t10 e148 h => ?_)
   refine br_eti h dect (fun c149 h => ?_) (fun c149 h => ?_)
   ·cases h; exact hk
   cases h; exact hk
  refine br_g h rfl (fun c150 h => ?_)
  refine br_g h rfl (fun c151 h => ?_)
  refine br_g h rfl (fun c152 h => ?_)
  refine br_g h rfl (fun c153 h => ?_)
  refine br_g h rfl (fun c154 h => ?_)
  refine br_g h rfl (fun c155 h => ?_)
  refine br_eti h rfl (fun c156 h => ?_) (fun c156 h => ?_)
  ·exact (ih N (by omega)).1 _ _ _ _ _ _ _ _ _ _ _ _ h hk
  refine br_g h rfl (fun c157 h => ?_)
  refine br_g h rfl (fun c158 h => ?_)
  refine br_g h rfl (fun c159 h => ?_)
  refine br_g h rfl (fun c160 h => ?_)
  refine br_etn h (by first | rfl | exact dect | exact (congrArg not dect) | (simp; done) | (simp [beqI]; done) | (simp; omega)) (fun c161 h => ?_) (fun c161 h => ?_)
  ·cases h; exact hk
  exact (ih N (by omega)).1 _ _ _ _ _ _ _ _ _ _ _ _ h hk
 ·intro k x0 x1 x2 x3 x4 x5 x6 x7 x8 x9 x10 r h hk
  rcases N0 with _ | N
  · cases h
  first | rw [laws_FnCert.l1] at h | simp only [laws_FnCert.l1] at h | (unfold laws_FnCert.l1 at h; dsimp only at h)
  refine loop_fold mC_13 mD_13 ?_
  refine (w_13_1 k x0 x1 x2 x3 x4 x5 x6 x7 x8 x9 x10).trans ?_
  refine br_eti h rfl (fun c162 h => ?_) (fun c162 h => ?_)
  ·refine call_h N h (fun t12 e163 h => ?_)
   refine call_h N h (fun t13 e164 h => ?_)
   refine br_ite h rfl (fun c165 h => ?_) (fun c165 h => ?_)
   ·refine call_h N h (fun t14 e166 h => ?_)
    refine br_eti h dect (fun c167 h => ?_) (fun c167 h => ?_)
    ·cases h; exact hk
    refine br_eti h rfl (fun c168 h => ?_) (fun c168 h => ?_)
    ·cases h; exact hk
    refine br_eti h rfl (fun c169 h => ?_) (fun c169 h => ?_)
    ·cases h; exact hk
    cases h; exact hk
   refine br_eti h rfl (fun c170 h => ?_) (fun c170 h => ?_)
   ·refine br_eti h rfl (fun c171 h => ?_) (fun c171 h => ?_)
    ·cases h; exact hk
    refine call_h N h (fun t16 e172 h => ?_)
    cases h; exact hk
   refine call_h N h (fun t15 e173 h => ?_)
   refine br_eti h dect (fun c174 h => ?_) (fun c174 h => ?_)
   ·cases h; exact hk
   cases h; exact hk
  refine br_g h rfl (fun c175 h => ?_)
  refine br_g h rfl (fun c176 h => ?_)
  refine br_g h rfl (fun c177 h => ?_)
  refine br_g h rfl (fun c178 h => ?_)
  refine br_g h rfl (fun c179 h => ?_)
  refine br_g h rfl (fun c180 h => ?_)
  refine br_eti h rfl (fun c181 h => ?_) (fun c181 h => ?_)
  ·exact (ih N (by omega)).2 _ _ _ _ _ _ _ _ _ _ _ _ _ h hk
  refine br_g h rfl (fun c182 h => ?_)
  refine br_g h rfl (fun c183 h => ?_)
  refine br_g h rfl (fun c184 h => ?_)
  refine br_g h rfl (fun c185 h => ?_)
  refine br_etn h (by first | rfl | exact dect | exact (congrArg not dect) | (simp; done) | (simp [beqI]; done) | (simp; omega)) (fun c186 h => ?_) (fun c186 h => ?_)
  ·cases h; exact hk
  exact (ih N (by omega)).2 _ _ _ _ _ _ _ _ _ _ _ _ _ h hk
theorem okc_13 (args : List (AV tau)) (m : Mem tau) (κ : AV tau → Mem tau → Option Unit) (hh : c_13 args m κ = some ()) : ∃ av m1, κ av m1 = some () ∧ ToldA Try.prog TT (pnT 13) 13 args m av m1 := by
 obtain ⟨bx_, rw_⟩ := m
 unfold c_13 at hh
 simp only at hh
 split at hh
 case h_2 => cases hh
 rename_i b0 b1
 obtain ⟨l0, hx0, hh0⟩ := bO_some hh
 obtain ⟨l1, hx1, hh1⟩ := bO_some hh0
 have ex0 := asSl_some hx0
 have ex1 := asSl_some hx1
 subst ex0 ex1
 obtain ⟨N, t, h, hκ⟩ := callX_some hh1
 refine ⟨_, _, hκ, told_of_run pq okC_13 (fun _ _ _ => drawA_ok pq okC_13 hmix) (E := E_13) (fn := Try.f13) (body := B_13) (by kernel_rfl) (by kernel_rfl) (by kernel_rfl) (by rfl) (by exact Nat.le_of_ble_eq_true rfl) (fun k hk => ?_)⟩
 refine (w_13 l0 l1 k).trans ?_
 replace h : laws_FnCert.f N l0 l1 = some t := h
 unfold laws_FnCert.f at h
 refine br_ite h rfl (fun c187 h => ?_) (fun c187 h => ?_)
 ·cases h; exact hk
 refine br_ite h rfl (fun c188 h => ?_) (fun c188 h => ?_)
 ·cases h; exact hk
 refine call_h N h (fun t0 e189 h => ?_)
 refine call_h N h (fun t1 e190 h => ?_)
 refine call_h N h (fun t2 e191 h => ?_)
 refine call_h N h (fun t3 e192 h => ?_)
 refine br_etn h (congrArg not dect) (fun c193 h => ?_) (fun c193 h => ?_)
 ·cases h; exact hk
 refine br_ite h rfl (fun c194 h => ?_) (fun c194 h => ?_)
 ·cases h; exact hk
 refine call_h N h (fun t4 e195 h => ?_)
 refine br_ite h rfl (fun c196 h => ?_) (fun c196 h => ?_)
 ·refine call_h N h (fun t5 e197 h => ?_)
  refine br_ite h rfl (fun c198 h => ?_) (fun c198 h => ?_)
  ·cases h; exact hk
  refine br_ite h rfl (fun c199 h => ?_) (fun c199 h => ?_)
  ·cases h; exact hk
  refine br_etn h rfl (fun c200 h => ?_) (fun c200 h => ?_)
  ·cases h; exact hk
  exact (L_13 N).1 _ _ _ _ _ _ _ _ _ _ _ _ h hk
 refine call_h N h (fun t6 e201 h => ?_)
 refine br_ite h rfl (fun c202 h => ?_) (fun c202 h => ?_)
 ·cases h; exact hk
 refine br_ite h rfl (fun c203 h => ?_) (fun c203 h => ?_)
 ·cases h; exact hk
 refine br_etn h rfl (fun c204 h => ?_) (fun c204 h => ?_)
 ·cases h; exact hk
 exact (L_13 N).2 _ _ _ _ _ _ _ _ _ _ _ _ _ h hk
end Go.Proofs.Ytkkmhlfpombgfaa.PFnCert
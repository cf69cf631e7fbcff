/- The machine's texts of FnCertLater (links). Conditions: none. -/
import Derived.Test.YtkkmhlfpombgfaaPFnCertLaterx1
set_option linter.unusedVariables false
set_option linter.unusedSimpArgs false
set_option maxRecDepth 100000
set_option maxHeartbeats 4000000
namespace Go.Proofs.Ytkkmhlfpombgfaa.PFnCertLater
open Go.RowKit Go.Proofs.YtkkmhlfpombgfaaW.PrintWords Go.Proofs.YtkkmhlfpombgfaaW.PrintLast Go.Proofs.YtkkmhlfpombgfaaW.PrintMore
open Go Go.Proofs Am
theorem okc_48 (args : List (AV tau)) (m : Mem tau) (κ : AV tau → Mem tau → Option Unit) (hh : c_48 args m κ = some ()) : ∃ av m1, κ av m1 = some () ∧ ToldA Try.prog TT (pnT 48) 48 args m av m1 := by
 obtain ⟨bx_, rw_⟩ := m
 unfold c_48 at hh
 simp only at hh
 split at hh
 case h_2 => cases hh
 rename_i b0
 obtain ⟨l0, hx0, hh0⟩ := bO_some hh
 have ex0 := asSl_some hx0
 subst ex0
 obtain ⟨N, t, h, hκ⟩ := callX_some hh0
 refine ⟨_, _, hκ, told_of_run pq okC_48 (fun _ _ _ => drawA_ok pq okC_48 hmix) (E := E_48) (fn := Try.f48) (body := B_48) (by kernel_rfl) (by kernel_rfl) (by kernel_rfl) (by rfl) (by exact Nat.le_of_ble_eq_true rfl) (fun k hk => ?_)⟩
 refine (w_48 l0 k).trans ?_
 replace h : spec_DrawCertApply.f N l0 = some t := h
 unfold spec_DrawCertApply.f at h
 refine call_h 0 h (fun t0 e66 h => ?_)
 refine call_h N h (fun t1 e67 h => ?_)
 refine call_h N h (fun t2 e68 h => ?_)
 refine br_etn h (congrArg not dect) (fun c69 h => ?_) (fun c69 h => ?_)
 ·rcases N with _ | N
  · cases h
  first | rw [spec_DrawCertApply.j0] at h | simp only [spec_DrawCertApply.j0] at h | (unfold spec_DrawCertApply.j0 at h; dsimp only at h)
  replace h := ite_t h (by first | assumption | omega | simp_all)
  refine call_h N h (fun t3 e70 h => ?_)
  rcases N with _ | N
  · cases h
  first | rw [spec_DrawCertApply.j1] at h | simp only [spec_DrawCertApply.j1] at h | (unfold spec_DrawCertApply.j1 at h; dsimp only at h)
  refine call_h N h (fun t4 e71 h => ?_)
  refine call_h N h (fun t5 e72 h => ?_)
  refine br_eti h rfl (fun c73 h => ?_) (fun c73 h => ?_)
  ·rcases N with _ | N
   · cases h
   first | rw [spec_DrawCertApply.j2] at h | simp only [spec_DrawCertApply.j2] at h | (unfold spec_DrawCertApply.j2 at h; dsimp only at h)
   replace h := ite_f h (by first | assumption | omega | simp_all)
   refine br_eti h rfl (fun c74 h => ?_) (fun c74 h => ?_)
   ·cases h; exact hk
   refine call_h N h (fun t8 e75 h => ?_)
   refine br_eti h rfl (fun c76 h => ?_) (fun c76 h => ?_)
   ·cases h; exact hk
   refine br_itn h (congrArg not dect) (fun c77 h => ?_) (fun c77 h => ?_)
   ·cases h; exact hk
   refine br_g h rfl (fun c78 h => ?_)
   cases h; exact hk
  rcases N with _ | N
  · cases h
  first | rw [spec_DrawCertApply.j2] at h | simp only [spec_DrawCertApply.j2] at h | (unfold spec_DrawCertApply.j2 at h; dsimp only at h)
  refine br_ite h dect (fun c79 h => ?_) (fun c79 h => ?_)
  ·refine br_eti h rfl (fun c80 h => ?_) (fun c80 h => ?_)
   ·cases h; exact hk
   refine call_h N h (fun t6 e81 h => ?_)
   refine br_eti h rfl (fun c82 h => ?_) (fun c82 h => ?_)
   ·cases h; exact hk
   refine br_itn h (congrArg not dect) (fun c83 h => ?_) (fun c83 h => ?_)
   ·cases h; exact hk
   refine br_g h rfl (fun c84 h => ?_)
   cases h; exact hk
  refine br_eti h rfl (fun c85 h => ?_) (fun c85 h => ?_)
  ·cases h; exact hk
  refine call_h N h (fun t7 e86 h => ?_)
  refine br_eti h rfl (fun c87 h => ?_) (fun c87 h => ?_)
  ·cases h; exact hk
  refine br_itn h (congrArg not dect) (fun c88 h => ?_) (fun c88 h => ?_)
  ·cases h; exact hk
  refine br_g h rfl (fun c89 h => ?_)
  cases h; exact hk
 refine call_h N h (fun t9 e90 h => ?_)
 rcases N with _ | N
 · cases h
 first | rw [spec_DrawCertApply.j0] at h | simp only [spec_DrawCertApply.j0] at h | (unfold spec_DrawCertApply.j0 at h; dsimp only at h)
 refine br_eti h (by first | rfl | exact dect | exact (congrArg not dect) | (simp; done) | (simp [beqI]; done) | (simp; omega)) (fun c91 h => ?_) (fun c91 h => ?_)
 ·rcases N with _ | N
  · cases h
  first | rw [spec_DrawCertApply.j1] at h | simp only [spec_DrawCertApply.j1] at h | (unfold spec_DrawCertApply.j1 at h; dsimp only at h)
  refine call_h N h (fun t16 e92 h => ?_)
  refine call_h N h (fun t17 e93 h => ?_)
  refine br_eti h rfl (fun c94 h => ?_) (fun c94 h => ?_)
  ·rcases N with _ | N
   · cases h
   first | rw [spec_DrawCertApply.j2] at h | simp only [spec_DrawCertApply.j2] at h | (unfold spec_DrawCertApply.j2 at h; dsimp only at h)
   replace h := ite_f h (by first | assumption | omega | simp_all)
   refine br_eti h rfl (fun c95 h => ?_) (fun c95 h => ?_)
   ·cases h; exact hk
   refine call_h N h (fun t20 e96 h => ?_)
   refine br_eti h rfl (fun c97 h => ?_) (fun c97 h => ?_)
   ·cases h; exact hk
   refine br_itn h (congrArg not dect) (fun c98 h => ?_) (fun c98 h => ?_)
   ·cases h; exact hk
   refine br_g h rfl (fun c99 h => ?_)
   cases h; exact hk
  rcases N with _ | N
  · cases h
  first | rw [spec_DrawCertApply.j2] at h | simp only [spec_DrawCertApply.j2] at h | (unfold spec_DrawCertApply.j2 at h; dsimp only at h)
  refine br_ite h dect (fun c100 h => ?_) (fun c100 h => ?_)
  ·refine br_eti h rfl (fun c101 h => ?_) (fun c101 h => ?_)
   ·cases h; exact hk
   refine call_h N h (fun t18 e102 h => ?_)
   refine br_eti h rfl (fun c103 h => ?_) (fun c103 h => ?_)
   ·cases h; exact hk
   refine br_itn h (congrArg not dect) (fun c104 h => ?_) (fun c104 h => ?_)
   ·cases h; exact hk
   refine br_g h rfl (fun c105 h => ?_)
   cases h; exact hk
  refine br_eti h rfl (fun c106 h => ?_) (fun c106 h => ?_)
  ·cases h; exact hk
  refine call_h N h (fun t19 e107 h => ?_)
  refine br_eti h rfl (fun c108 h => ?_) (fun c108 h => ?_)
  ·cases h; exact hk
  refine br_itn h (congrArg not dect) (fun c109 h => ?_) (fun c109 h => ?_)
  ·cases h; exact hk
  refine br_g h rfl (fun c110 h => ?_)
  cases h; exact hk
 refine call_h N h (fun t10 e111 h => ?_)
 rcases N with _ | N
 · cases h
 first | rw [spec_DrawCertApply.j1] at h | simp only [spec_DrawCertApply.j1] at h | (unfold spec_DrawCertApply.j1 at h; dsimp only at h)
 refine call_h N h (fun t11 e112 h => ?_)
 refine call_h N h (fun t12 e113 h => ?_)
 refine br_eti h rfl (fun c114 h => ?_) (fun c114 h => ?_)
 ·rcases N with _ | N
  · cases h
  first | rw [spec_DrawCertApply.j2] at h | simp only [spec_DrawCertApply.j2] at h | (unfold spec_DrawCertApply.j2 at h; dsimp only at h)
  replace h := ite_f h (by first | assumption | omega | simp_all)
  refine br_eti h rfl (fun c115 h => ?_) (fun c115 h => ?_)
  ·cases h; exact hk
  refine call_h N h (fun t15 e116 h => ?_)
  refine br_eti h rfl (fun c117 h => ?_) (fun c117 h => ?_)
  ·cases h; exact hk
  refine br_itn h (congrArg not dect) (fun c118 h => ?_) (fun c118 h => ?_)
  ·cases h; exact hk
  refine br_g h rfl (fun c119 h => ?_)
  cases h; exact hk
 rcases N with _ | N
 · cases h
 first | rw [spec_DrawCertApply.j2] at h | simp only [spec_DrawCertApply.j2] at h | (unfold spec_DrawCertApply.j2 at h; dsimp only at h)
 refine br_ite h dect (fun c120 h => ?_) (fun c120 h => ?_)
 ·refine br_eti h rfl (fun c121 h => ?_) (fun c121 h => ?_)
  ·cases h; exact hk
  refine call_h N h (fun t13 e122 h => ?_)
  refine br_eti h rfl (fun c123 h => ?_) (fun c123 h => ?_)
  ·cases h; exact hk
  refine br_itn h (congrArg not dect) (fun c124 h => ?_) (fun c124 h => ?_)
  ·cases h; exact hk
  refine br_g h rfl (fun c125 h => ?_)
  cases h; exact hk
 refine br_eti h rfl (fun c126 h => ?_) (fun c126 h => ?_)
 ·cases h; exact hk
 refine call_h N h (fun t14 e127 h => ?_)
 refine br_eti h rfl (fun c128 h => ?_) (fun c128 h => ?_)
 ·cases h; exact hk
 refine br_itn h (congrArg not dect) (fun c129 h => ?_) (fun c129 h => ?_)
 ·cases h; exact hk
 refine br_g h rfl (fun c130 h => ?_)
 cases h; exact hk
noncomputable def C_49 : Ctr tau Unit := ctrS 48 c_48 C_48
noncomputable def D_49 : Drw tau := drawA E_49 C_49
theorem okC_49 : CtrOk Try.prog TT pnT C_49 := ctrS_ok okC_48 okc_48
theorem mC_49 : CtrMono C_49 := ctrS_mono mC_48 mc_48
theorem mD_49 : DrMono D_49 := drawA_mono mC_49
noncomputable def B_49 : Code := Try.f49.body.getD .skip
theorem mc_49 (args : List (AV tau)) (m : Mem tau) (k k' : AV tau → Mem tau → Option Unit) (hk : ∀ av m, k av m = some () → k' av m = some ()) (h : c_49 args m k = some ()) : c_49 args m k' = some () := by
 unfold c_49 at h ⊢
 split at h
 · repeat' first | exact callX_mono (fun _ h => hk _ _ h) h | refine bO_mono (fun _ h => ?_) h
 · cases h
noncomputable def K_49_0 (k : AV tau → Mem tau → Option Unit) : Kon tau := (kBlock 0 (kS E_49 C_49 D_49 (codeP B_49 [1, 1, 1]) (kEnd E_49 Try.f49 k)))
def st_49_0 (x0 : Int) (x1 : Int) (x2 : (List S37)) (x3 : (List S84)) : St tau := ⟨tmL 79 0 [(1, .ptr 0 0), (3, .int .i64 x0)], ⟨[some (69, [.int .i64 x1, .sl 37 x2, .sl 84 x3])], []⟩⟩
noncomputable def LP_49_0 (k : AV tau → Mem tau → Option Unit) (x0 : Int) (x1 : Int) (x2 : (List S37)) (x3 : (List S84)) : Option Unit := loopA E_49 (codeA E_49 C_49 D_49 (codeP B_49 [1, 1, 0, 1, 0, 0])) (codeP B_49 [1, 1, 0, 1, 0, 0]) (K_49_0 k) (st_49_0 x0 x1 x2 x3)
theorem w_49_0 (k : AV tau → Mem tau → Option Unit) (x0 : Int) (x1 : Int) (x2 : (List S37)) (x3 : (List S84)) : codeA E_49 C_49 D_49 (codeP B_49 [1, 1, 0, 1, 0, 0]) (kL E_49 C_49 D_49 (codeP B_49 [1, 1, 0, 1, 0, 0]) (K_49_0 k)) (st_49_0 x0 x1 x2 x3) = (brA (decide (x0 < ((x3.length : Nat) : Int))) (brA (decide ((0 : Int) ≤ x0)) (brA (decide (x0 < ((x3.length : Nat) : Int))) (callX (fun n => spec_l5Req.f (((rd_T84 x3 x0).f0).f0) (((rd_T84 x3 x0).f0).f1)) fun t1 => brA (!t1) (k (.bool false) ⟨[], []⟩) (brA (decide ((rd_T84 x3 x0).f1 < (0 : Int))) (k (.bool false) ⟨[], []⟩) (brA (decide ((rd_T84 x3 x0).f1 > (2 : Int))) (k (.bool false) ⟨[], []⟩) (callX (fun n => spec_l1Num.f ((rd_T84 x3 x0).f2)) fun t2 => brA (!t2) (k (.bool false) ⟨[], []⟩) (brA (!(decide ((rd_T84 x3 x0).f1 = (0 : Int)))) (brA (!(decide ((rd_T84 x3 x0).f2 = (0 : Int)))) (k (.bool false) ⟨[], []⟩) (brA (decide (x0 > (0 : Int))) (brA (decide ((0 : Int) ≤ (wrap64 (x0 - (1 : Int))))) (brA (decide ((wrap64 (x0 - (1 : Int))) < ((x3.length : Nat) : Int))) (brA (decide (((rd_T84 x3 x0).f0).f0 ≤ ((rd_T84 x3 (wrap64 (x0 - (1 : Int)))).f0).f0)) (k (.bool false) ⟨[], []⟩) (LP_49_0 k (wrap64 (x0 + (1 : Int))) x1 x2 x3)) (none)) (none)) (LP_49_0 k (wrap64 (x0 + (1 : Int))) x1 x2 x3))) (brA (decide (x0 > (0 : Int))) (brA (decide ((0 : Int) ≤ (wrap64 (x0 - (1 : Int))))) (brA (decide ((wrap64 (x0 - (1 : Int))) < ((x3.length : Nat) : Int))) (brA (decide (((rd_T84 x3 x0).f0).f0 ≤ ((rd_T84 x3 (wrap64 (x0 - (1 : Int)))).f0).f0)) (k (.bool false) ⟨[], []⟩) (LP_49_0 k (wrap64 (x0 + (1 : Int))) x1 x2 x3)) (none)) (none)) (LP_49_0 k (wrap64 (x0 + (1 : Int))) x1 x2 x3))))))) (none)) (none)) (k (.bool true) ⟨[], []⟩) : Option Unit) := by kernel_rfl
theorem w_49 (a0_0 : Int) (l0_1 : List S37) (l0_2 : List S84) (k : AV tau → Mem tau → Option Unit) : fnA E_49 C_49 D_49 Try.f49 B_49 [.agg [.int .i64 a0_0, .sl 37 l0_1, .sl 84 l0_2]] ⟨[], []⟩ k = (brA (decide (a0_0 < (0 : Int))) (k (.bool false) ⟨[], []⟩) (brA (decide (a0_0 > (40 : Int))) (k (.bool false) ⟨[], []⟩) (callX (fun n => spec_BoxOk.f n l0_1) fun t0 => brA (!t0) (k (.bool false) ⟨[], []⟩) (LP_49_0 k (0 : Int) a0_0 l0_1 l0_2))) : Option Unit) := by kernel_rfl
def S_49_0 (N : Nat) : Prop := ∀ (k : AV tau → Mem tau → Option Unit) (x0 : Int) (x1 : Int) (x2 : (List S37)) (x3 : (List S84)) (r : Bool), spec_CertOk.l0 N (x0) (x1) (x2) (x3) = some r → k (.bool (r)) ⟨[], []⟩ = some () → LP_49_0 k x0 x1 x2 x3 = some ()
theorem L_49 (N : Nat) : S_49_0 N := by
 induction N using Nat.strongRecOn with | _ N0 ih =>
 skip
 intro k x0 x1 x2 x3 r h hk
 rcases N0 with _ | N
 · cases h
 first | rw [spec_CertOk.l0] at h | simp only [spec_CertOk.l0] at h | (unfold spec_CertOk.l0 at h; dsimp only at h)
 refine loop_fold mC_49 mD_49 ?_
 refine (w_49_0 k x0 x1 x2 x3).trans ?_
 refine br_eti h rfl (fun c45 h => ?_) (fun c45 h => ?_)
 ·cases h; exact hk
 refine br_g h rfl (fun c46 h => ?_)
 refine br_t (by first | (simp [c45]; done) | (simp; omega) | (simp_all; done)) ?_
 refine call_h 0 h (fun t1 e47 h => ?_)
 refine br_etn h (congrArg not dect) (fun c48 h => ?_) (fun c48 h => ?_)
 ·rcases N with _ | N
  · cases h
  first | rw [spec_CertOk.j2] at h | simp only [spec_CertOk.j2] at h | (unfold spec_CertOk.j2 at h; dsimp only at h)
  replace h := ite_t h (by first | assumption | omega | simp_all)
  cases h; exact hk
 refine br_ite h rfl (fun c49 h => ?_) (fun c49 h => ?_)
 ·rcases N with _ | N
  · cases h
  first | rw [spec_CertOk.j2] at h | simp only [spec_CertOk.j2] at h | (unfold spec_CertOk.j2 at h; dsimp only at h)
  replace h := ite_t h (by first | assumption | omega | simp_all)
  cases h; exact hk
 refine br_ite h rfl (fun c50 h => ?_) (fun c50 h => ?_)
 ·rcases N with _ | N
  · cases h
  first | rw [spec_CertOk.j2] at h | simp only [spec_CertOk.j2] at h | (unfold spec_CertOk.j2 at h; dsimp only at h)
  replace h := ite_t h (by first | assumption | omega | simp_all)
  cases h; exact hk
 refine call_h 0 h (fun t2 e51 h => ?_)
 refine br_etn h (congrArg not dect) (fun c52 h => ?_) (fun c52 h => ?_)
 ·rcases N with _ | N
  · cases h
  first | rw [spec_CertOk.j2] at h | simp only [spec_CertOk.j2] at h | (unfold spec_CertOk.j2 at h; dsimp only at h)
  replace h := ite_t h (by first | assumption | omega | simp_all)
  cases h; exact hk
 refine br_itn h rfl (fun c53 h => ?_) (fun c53 h => ?_)
 ·refine br_eti h rfl (fun c54 h => ?_) (fun c54 h => ?_)
  ·rcases N with _ | N
   · cases h
   first | rw [spec_CertOk.j2] at h | simp only [spec_CertOk.j2] at h | (unfold spec_CertOk.j2 at h; dsimp only at h)
   replace h := ite_f h (by first | assumption | omega | simp_all)
   exact (ih N (by omega)) _ _ _ _ _ _ h hk
  refine br_g h rfl (fun c55 h => ?_)
  refine br_g h rfl (fun c56 h => ?_)
  rcases N with _ | N
  · cases h
  first | rw [spec_CertOk.j2] at h | simp only [spec_CertOk.j2] at h | (unfold spec_CertOk.j2 at h; dsimp only at h)
  refine br_ite h (by first | rfl | exact dect | exact (congrArg not dect) | (simp; done) | (simp [beqI]; done) | (simp; omega)) (fun c57 h => ?_) (fun c57 h => ?_)
  ·cases h; exact hk
  exact (ih N (by omega)) _ _ _ _ _ _ h hk
 refine br_etn h rfl (fun c58 h => ?_) (fun c58 h => ?_)
 ·rcases N with _ | N
  · cases h
  first | rw [spec_CertOk.j2] at h | simp only [spec_CertOk.j2] at h | (unfold spec_CertOk.j2 at h; dsimp only at h)
  replace h := ite_t h (by first | assumption | omega | simp_all)
  cases h; exact hk
 refine br_eti h rfl (fun c59 h => ?_) (fun c59 h => ?_)
 ·rcases N with _ | N
  · cases h
  first | rw [spec_CertOk.j2] at h | simp only [spec_CertOk.j2] at h | (unfold spec_CertOk.j2 at h; dsimp only at h)
  replace h := ite_f h (by first | assumption | omega | simp_all)
  exact (ih N (by omega)) _ _ _ _ _ _ h hk
 refine br_g h rfl (fun c60 h => ?_)
 refine br_g h rfl (fun c61 h => ?_)
 rcases N with _ | N
 · cases h
 first | rw [spec_CertOk.j2] at h | simp only [spec_CertOk.j2] at h | (unfold spec_CertOk.j2 at h; dsimp only at h)
 refine br_ite h (by first | rfl | exact dect | exact (congrArg not dect) | (simp; done) | (simp [beqI]; done) | (simp; omega)) (fun c62 h => ?_) (fun c62 h => ?_)
 ·cases h; exact hk
 exact (ih N (by omega)) _ _ _ _ _ _ h hk
theorem okc_49 (args : List (AV tau)) (m : Mem tau) (κ : AV tau → Mem tau → Option Unit) (hh : c_49 args m κ = some ()) : ∃ av m1, κ av m1 = some () ∧ ToldA Try.prog TT (pnT 49) 49 args m av m1 := by
 obtain ⟨bx_, rw_⟩ := m
 unfold c_49 at hh
 simp only at hh
 split at hh
 case h_2 => cases hh
 rename_i b0 b1 b2
 obtain ⟨a0_0, hx0, hh0⟩ := bO_some hh
 obtain ⟨l0_1, hx1, hh1⟩ := bO_some hh0
 obtain ⟨l0_2, hx2, hh2⟩ := bO_some hh1
 have ex0 := asI_some hx0
 have ex1 := asSl_some hx1
 have ex2 := asSl_some hx2
 subst ex0 ex1 ex2
 obtain ⟨N, t, h, hκ⟩ := callX_some hh2
 refine ⟨_, _, hκ, told_of_run pq okC_49 (fun _ _ _ => drawA_ok pq okC_49 hmix) (E := E_49) (fn := Try.f49) (body := B_49) (by kernel_rfl) (by kernel_rfl) (by kernel_rfl) (by rfl) (by exact Nat.le_of_ble_eq_true rfl) (fun k hk => ?_)⟩
 refine (w_49 a0_0 l0_1 l0_2 k).trans ?_
 replace h : spec_CertOk.f N a0_0 l0_1 l0_2 = some t := h
 unfold spec_CertOk.f at h
 refine br_ite h rfl (fun c63 h => ?_) (fun c63 h => ?_)
 ·rcases N with _ | N
  · cases h
  first | rw [spec_CertOk.j0] at h | simp only [spec_CertOk.j0] at h | (unfold spec_CertOk.j0 at h; dsimp only at h)
  replace h := ite_t h (by first | assumption | omega | simp_all)
  cases h; exact hk
 refine br_ite h rfl (fun c64 h => ?_) (fun c64 h => ?_)
 ·rcases N with _ | N
  · cases h
  first | rw [spec_CertOk.j0] at h | simp only [spec_CertOk.j0] at h | (unfold spec_CertOk.j0 at h; dsimp only at h)
  replace h := ite_t h (by first | assumption | omega | simp_all)
  cases h; exact hk
 refine call_h N h (fun t0 e65 h => ?_)
 rcases N with _ | N
 · cases h
 first | rw [spec_CertOk.j0] at h | simp only [spec_CertOk.j0] at h | (unfold spec_CertOk.j0 at h; dsimp only at h)
 refine br_ite h dect (fun c66 h => ?_) (fun c66 h => ?_)
 ·cases h; exact hk
 exact (L_49 N) _ _ _ _ _ _ h hk
noncomputable def C_7 : Ctr tau Unit := ctrS 49 c_49 C_49
noncomputable def D_7 : Drw tau := drawA E_7 C_7
theorem okC_7 : CtrOk Try.prog TT pnT C_7 := ctrS_ok okC_49 okc_49
theorem mC_7 : CtrMono C_7 := ctrS_mono mC_49 mc_49
theorem mD_7 : DrMono D_7 := drawA_mono mC_7
noncomputable def B_7 : Code := Try.f7.body.getD .skip
theorem mc_7 (args : List (AV tau)) (m : Mem tau) (k k' : AV tau → Mem tau → Option Unit) (hk : ∀ av m, k av m = some () → k' av m = some ()) (h : c_7 args m k = some ()) : c_7 args m k' = some () := by
 unfold c_7 at h ⊢
 split at h
 · repeat' first | exact callX_mono (fun _ h => hk _ _ h) h | refine bO_mono (fun _ h => ?_) h
 · cases h
noncomputable def K_7_0 (k : AV tau → Mem tau → Option Unit) : Kon tau := (kBlock 0 (kS E_7 C_7 D_7 (codeP B_7 [1, 1, 1, 1, 1, 1, 1, 1, 1, 1]) (kEnd E_7 Try.f7 k)))
def st_7_0 (x0 : Int) (x1 : Int) (x2 : Int) (x3 : Int) (x4 : Int) (x5 : Int) (x6 : Int) (x7 : Int) (x8 : (List S37)) (x9 : (List S84)) (x10 : (List S37)) (x11 : (List S84)) : St tau := ⟨tmL 133 0 [(5, .ptr 0 0), (7, .int .i64 x0), (9, .int .i64 x1), (11, .int .i64 x2), (12, .ptr 1 0), (13, .int .i64 x3), (14, .int .i64 x4), (15, .int .i64 x5)], ⟨[some (69, [.int .i64 x6, .own 0 0, .own 1 0]), some (69, [.int .i64 x7, .own 2 0, .own 3 0])], [some ⟨37, x8, 0⟩, some ⟨84, x9, 0⟩, some ⟨37, x10, 0⟩, some ⟨84, x11, 0⟩]⟩⟩
noncomputable def LP_7_0 (k : AV tau → Mem tau → Option Unit) (x0 : Int) (x1 : Int) (x2 : Int) (x3 : Int) (x4 : Int) (x5 : Int) (x6 : Int) (x7 : Int) (x8 : (List S37)) (x9 : (List S84)) (x10 : (List S37)) (x11 : (List S84)) : Option Unit := loopA E_7 (codeA E_7 C_7 D_7 (codeP B_7 [1, 1, 1, 1, 1, 1, 1, 1, 1, 0, 1, 0, 0])) (codeP B_7 [1, 1, 1, 1, 1, 1, 1, 1, 1, 0, 1, 0, 0]) (K_7_0 k) (st_7_0 x0 x1 x2 x3 x4 x5 x6 x7 x8 x9 x10 x11)
theorem w_7_0 (k : AV tau → Mem tau → Option Unit) (x0 : Int) (x1 : Int) (x2 : Int) (x3 : Int) (x4 : Int) (x5 : Int) (x6 : Int) (x7 : Int) (x8 : (List S37)) (x9 : (List S84)) (x10 : (List S37)) (x11 : (List S84)) : codeA E_7 C_7 D_7 (codeP B_7 [1, 1, 1, 1, 1, 1, 1, 1, 1, 0, 1, 0, 0]) (kL E_7 C_7 D_7 (codeP B_7 [1, 1, 1, 1, 1, 1, 1, 1, 1, 0, 1, 0, 0]) (K_7_0 k)) (st_7_0 x0 x1 x2 x3 x4 x5 x6 x7 x8 x9 x10 x11) = (brA (decide (x5 < ((x11.length : Nat) : Int))) (brA (decide ((0 : Int) ≤ x5)) (brA (decide (x5 < ((x11.length : Nat) : Int))) (brA (decide (((rd_T84 x11 x5).f0).f0 = x0)) (brA (decide ((0 : Int) ≤ x5)) (brA (decide (x5 < ((x11.length : Nat) : Int))) (brA (!(decide (((rd_T84 x11 x5).f0).f1 = (900 : Int)))) (k (.bool false) ⟨[], []⟩) (brA (decide ((0 : Int) ≤ x5)) (brA (decide (x5 < ((x11.length : Nat) : Int))) (brA (!(decide ((rd_T84 x11 x5).f1 = (2 : Int)))) (k (.bool false) ⟨[], []⟩) (LP_7_0 k x0 x1 x2 x3 (wrap64 (x4 + (1 : Int))) (wrap64 (x5 + (1 : Int))) x6 x7 x8 x9 x10 x11)) (none)) (none))) (none)) (none)) (LP_7_0 k x0 x1 x2 x3 x4 (wrap64 (x5 + (1 : Int))) x6 x7 x8 x9 x10 x11)) (none)) (none)) (brA (decide (x1 = (0 : Int))) (brA (decide (x2 = (4 : Int))) (brA (decide (x3 = (2 : Int))) (brA (decide (x4 = (1 : Int))) (callX (fun n => impl_BoxSame.f n x10 x8) fun t9 => k (.bool t9) ⟨[], []⟩) (k (.bool false) ⟨[], []⟩)) (k (.bool false) ⟨[], []⟩)) (k (.bool false) ⟨[], []⟩)) (k (.bool false) ⟨[], []⟩)) : Option Unit) := by kernel_rfl
theorem w_7 (l0 : List Int) (l1 : List Int) (k : AV tau → Mem tau → Option Unit) : fnA E_7 C_7 D_7 Try.f7 B_7 [.sl 5 l0, .sl 5 l1] ⟨[], []⟩ k = (brA (decide (((l0.length : Nat) : Int) > (1048576 : Int))) (k (.bool true) ⟨[], []⟩) (brA (decide (((l1.length : Nat) : Int) > (1048576 : Int))) (k (.bool true) ⟨[], []⟩) (callX (fun n => spec_DrawCertApply.f n l0) fun t0 => callX (fun n => spec_CertOk.f n t0.1 t0.2.1 t0.2.2.1) fun t1 => brA (!t1) (callX (fun n => impl_CertOk.f n t0.1 t0.2.1 t0.2.2.1) fun t2 => callX (fun n => spec_CertOk.f n t0.1 t0.2.1 t0.2.2.1) fun t3 => k (.bool (t2 == t3)) ⟨[], []⟩) (brA (decide (t0.1 > (37 : Int))) (callX (fun n => impl_CertOk.f n t0.1 t0.2.1 t0.2.2.1) fun t4 => callX (fun n => spec_CertOk.f n t0.1 t0.2.1 t0.2.2.1) fun t5 => k (.bool (t4 == t5)) ⟨[], []⟩) (callX (fun n => impl_CertApply.f n t0.1 t0.2.1 t0.2.2.1 false (Int.tmod ((l1.length : Nat) : Int) (3 : Int)) (wrap64 ((600 : Int) + (Int.tmod ((l1.length : Nat) : Int) (100 : Int)))) ([] : List S39) ([] : List S82) (0 : Int) (0 : Int)) fun t6 => callX (fun n => impl_CertApply.f n t6.1 t6.2.1 t6.2.2.1 false (Int.tmod ((l1.length : Nat) : Int) (3 : Int)) (599 : Int) ([] : List S39) ([(⟨(1 : Int), (3 : Int)⟩ : S82)] : List S82) (0 : Int) (0 : Int)) fun t7 => callX (fun n => impl_CertApply.f n t7.1 t7.2.1 t7.2.2.1 false (Int.tmod ((l1.length : Nat) : Int) (3 : Int)) (900 : Int) ([] : List S39) ([] : List S82) (0 : Int) (1 : Int)) fun t8 => LP_7_0 k (Int.tmod ((l1.length : Nat) : Int) (3 : Int)) t6.2.2.2 t7.2.2.2 t8.2.2.2 (0 : Int) (0 : Int) t0.1 t8.1 t0.2.1 t0.2.2.1 t8.2.1 t8.2.2.1)))) : Option Unit) := by kernel_rfl
def S_7_0 (N : Nat) : Prop := ∀ (k : AV tau → Mem tau → Option Unit) (x0 : Int) (x1 : Int) (x2 : Int) (x3 : Int) (x4 : Int) (x5 : Int) (x6 : Int) (x7 : Int) (x8 : (List S37)) (x9 : (List S84)) (x10 : (List S37)) (x11 : (List S84)) (r : Bool), laws_FnCertLater.l0 N (x0) (x1) (x2) (x3) (x4) (x5) (x6) (x8) (x9) (x7) (x10) (x11) = some r → k (.bool (r)) ⟨[], []⟩ = some () → LP_7_0 k x0 x1 x2 x3 x4 x5 x6 x7 x8 x9 x10 x11 = some ()
theorem L_7 (N : Nat) : S_7_0 N := by
 induction N using Nat.strongRecOn with | _ N0 ih =>
 skip
 intro k x0 x1 x2 x3 x4 x5 x6 x7 x8 x9 x10 x11 r h hk
 rcases N0 with _ | N
 · cases h
 first | rw [laws_FnCertLater.l0] at h | simp only [laws_FnCertLater.l0] at h | (unfold laws_FnCertLater.l0 at h; dsimp only at h)
 refine loop_fold mC_7 mD_7 ?_
 refine (w_7_0 k x0 x1 x2 x3 x4 x5 x6 x7 x8 x9 x10 x11).trans ?_
 refine br_eti h rfl (fun c47 h => ?_) (fun c47 h => ?_)
 ·refine br_eti h rfl (fun c48 h => ?_) (fun c48 h => ?_)
  ·cases h; exact hk
  refine br_eti h rfl (fun c49 h => ?_) (fun c49 h => ?_)
  ·cases h; exact hk
  refine br_eti h rfl (fun c50 h => ?_) (fun c50 h => ?_)
  ·cases h; exact hk
  refine br_eti h rfl (fun c51 h => ?_) (fun c51 h => ?_)
  ·cases h; exact hk
  refine call_h N h (fun t9 e52 h => ?_)
  cases h; exact hk
 refine br_g h rfl (fun c53 h => ?_)
 refine br_t (by first | (simp [c47]; done) | (simp; omega) | (simp_all; done)) ?_
 refine br_eti h rfl (fun c54 h => ?_) (fun c54 h => ?_)
 ·exact (ih N (by omega)) _ _ _ _ _ _ _ _ _ _ _ _ _ _ h hk
 refine br_t (by first | (simp [c53]; done) | (simp; omega) | (simp_all; done)) ?_
 refine br_t (by first | (simp [c47]; done) | (simp; omega) | (simp_all; done)) ?_
 refine br_etn h rfl (fun c55 h => ?_) (fun c55 h => ?_)
 ·cases h; exact hk
 refine br_t (by first | (simp [c53]; done) | (simp; omega) | (simp_all; done)) ?_
 refine br_t (by first | (simp [c47]; done) | (simp; omega) | (simp_all; done)) ?_
 refine br_etn h rfl (fun c56 h => ?_) (fun c56 h => ?_)
 ·cases h; exact hk
 exact (ih N (by omega)) _ _ _ _ _ _ _ _ _ _ _ _ _ _ h hk
theorem okc_7 (args : List (AV tau)) (m : Mem tau) (κ : AV tau → Mem tau → Option Unit) (hh : c_7 args m κ = some ()) : ∃ av m1, κ av m1 = some () ∧ ToldA Try.prog TT (pnT 7) 7 args m av m1 := by
 obtain ⟨bx_, rw_⟩ := m
 unfold c_7 at hh
 simp only at hh
 split at hh
 case h_2 => cases hh
 rename_i b0 b1
 obtain ⟨l0, hx0, hh0⟩ := bO_some hh
 obtain ⟨l1, hx1, hh1⟩ := bO_some hh0
 have ex0 := asSl_some hx0
 have ex1 := asSl_some hx1
 subst ex0 ex1
 obtain ⟨N, t, h, hκ⟩ := callX_some hh1
 refine ⟨_, _, hκ, told_of_run pq okC_7 (fun _ _ _ => drawA_ok pq okC_7 hmix) (E := E_7) (fn := Try.f7) (body := B_7) (by kernel_rfl) (by kernel_rfl) (by kernel_rfl) (by rfl) (by exact Nat.le_of_ble_eq_true rfl) (fun k hk => ?_)⟩
 refine (w_7 l0 l1 k).trans ?_
 replace h : laws_FnCertLater.f N l0 l1 = some t := h
 unfold laws_FnCertLater.f at h; rw [pct_wrap (α := Int) l1 600 100 (by omega) (by omega) (by omega) (by omega)] at h; rw [pct_len (α := Int) l1 3] at h
 refine br_ite h rfl (fun c57 h => ?_) (fun c57 h => ?_)
 ·cases h; exact hk
 refine br_ite h rfl (fun c58 h => ?_) (fun c58 h => ?_)
 ·cases h; exact hk
 refine call_h N h (fun t0 e59 h => ?_)
 refine call_h N h (fun t1 e60 h => ?_)
 refine br_etn h (congrArg not dect) (fun c61 h => ?_) (fun c61 h => ?_)
 ·refine call_h N h (fun t2 e62 h => ?_)
  refine call_h N h (fun t3 e63 h => ?_)
  cases h; exact hk
 refine br_ite h rfl (fun c64 h => ?_) (fun c64 h => ?_)
 ·refine call_h N h (fun t4 e65 h => ?_)
  refine call_h N h (fun t5 e66 h => ?_)
  cases h; exact hk
 refine call_h N h (fun t6 e67 h => ?_)
 refine call_h N h (fun t7 e68 h => ?_)
 refine call_h N h (fun t8 e69 h => ?_)
 exact (L_7 N) _ _ _ _ _ _ _ _ _ _ _ _ _ _ h hk
end Go.Proofs.Ytkkmhlfpombgfaa.PFnCertLater
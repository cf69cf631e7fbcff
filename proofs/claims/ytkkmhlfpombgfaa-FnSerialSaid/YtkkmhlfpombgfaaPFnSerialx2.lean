/- The machine's texts of FnSerial (links). Conditions: none. -/
import Derived.Test.YtkkmhlfpombgfaaPFnSerialx1
set_option linter.unusedVariables false
set_option linter.unusedSimpArgs false
set_option maxRecDepth 100000
set_option maxHeartbeats 4000000
namespace Go.Proofs.Ytkkmhlfpombgfaa.PFnSerial
open Go.RowKit Go.Proofs.YtkkmhlfpombgfaaW.PrintWords Go.Proofs.YtkkmhlfpombgfaaW.PrintLast Go.Proofs.YtkkmhlfpombgfaaW.PrintMore
open Go Go.Proofs Am
theorem L_5 (N : Nat) : S_5_0 N := by
 induction N using Nat.strongRecOn with | _ N0 ih =>
 skip
 intro k x0 x1 x2 x3 x4 x5 x6 r h hk
 rcases N0 with _ | N
 · cases h
 first | rw [laws_FnSerial.l0] at h | simp only [laws_FnSerial.l0] at h | (unfold laws_FnSerial.l0 at h; dsimp only at h)
 refine loop_fold mC_5 mD_5 ?_
 refine (w_5_0 k x0 x1 x2 x3 x4 x5 x6).trans ?_
 refine br_ite h rfl (fun c91 h => ?_) (fun c91 h => ?_)
 ·refine br_g h rfl (fun c92 h => ?_)
  refine br_g h rfl (fun c93 h => ?_)
  refine br_g h rfl (fun c94 h => ?_)
  refine br_g h rfl (fun c95 h => ?_)
  refine br_etn h rfl (fun c96 h => ?_) (fun c96 h => ?_)
  ·cases h; exact hk
  exact (ih N (by omega)) _ _ _ _ _ _ _ _ _ h hk
 refine br_ite h rfl (fun c97 h => ?_) (fun c97 h => ?_)
 ·cases h; exact hk
 refine br_nn h rfl (fun c98 h => ?_)
 refine br_g h rfl (fun c99 h => ?_)
 refine br_g h rfl (fun c100 h => ?_)
 refine call_h N h (fun t4 e101 h => ?_)
 refine br_g h rfl (fun c102 h => ?_)
 refine br_g h rfl (fun c103 h => ?_)
 refine call_h N h (fun t5 e104 h => ?_)
 refine call_h N h (fun t6 e105 h => ?_)
 refine br_etn h (congrArg not dect) (fun c106 h => ?_) (fun c106 h => ?_)
 ·cases h; exact hk
 refine br_etn h rfl (fun c107 h => ?_) (fun c107 h => ?_)
 ·cases h; exact hk
 refine call_h N h (fun t7 e108 h => ?_)
 refine call_h N h (fun t8 e109 h => ?_)
 refine call_h N h (fun t9 e110 h => ?_)
 refine br_etn h (by first | rfl | exact dect | exact (congrArg not dect) | (simp; done) | (simp [beqI]; done) | (simp; omega)) (fun c111 h => ?_) (fun c111 h => ?_)
 ·cases h; exact hk
 refine call_h N h (fun t10 e112 h => ?_)
 refine call_h N h (fun t11 e113 h => ?_)
 refine br_etn h (by first | rfl | exact dect | exact (congrArg not dect) | (simp; done) | (simp [beqI]; done) | (simp; omega)) (fun c114 h => ?_) (fun c114 h => ?_)
 ·cases h; exact hk
 refine call_h N h (fun t12 e115 h => ?_)
 refine br_etn h (congrArg not dect) (fun c116 h => ?_) (fun c116 h => ?_)
 ·cases h; exact hk
 refine call_h N h (fun t13 e117 h => ?_)
 refine call_h N h (fun t14 e118 h => ?_)
 refine call_h N h (fun t15 e119 h => ?_)
 refine br_eti h dect (fun c120 h => ?_) (fun c120 h => ?_)
 ·cases h; exact hk
 refine br_eti h rfl (fun c121 h => ?_) (fun c121 h => ?_)
 ·cases h; exact hk
 refine br_eti h rfl (fun c122 h => ?_) (fun c122 h => ?_)
 ·cases h; exact hk
 refine br_g h rfl (fun c123 h => ?_)
 refine br_g h rfl (fun c124 h => ?_)
 refine br_eti h rfl (fun c125 h => ?_) (fun c125 h => ?_)
 ·cases h; exact hk
 refine br_g h rfl (fun c126 h => ?_)
 refine br_g h rfl (fun c127 h => ?_)
 cases h; exact hk
theorem okc_5 (args : List (AV tau)) (m : Mem tau) (κ : AV tau → Mem tau → Option Unit) (hh : c_5 args m κ = some ()) : ∃ av m1, κ av m1 = some () ∧ ToldA Try.prog TT (pnT 5) 5 args m av m1 := by
 obtain ⟨bx_, rw_⟩ := m
 unfold c_5 at hh
 simp only at hh
 split at hh
 case h_2 => cases hh
 rename_i b0 b1
 obtain ⟨l0, hx0, hh0⟩ := bO_some hh
 obtain ⟨l1, hx1, hh1⟩ := bO_some hh0
 have ex0 := asSl_some hx0
 have ex1 := asSl_some hx1
 subst ex0 ex1
 obtain ⟨N, t, h, hκ⟩ := callX_some hh1
 refine ⟨_, _, hκ, told_of_run pq okC_5 (fun _ _ _ => drawA_ok pq okC_5 hmix) (E := E_5) (fn := Try.f5) (body := B_5) (by kernel_rfl) (by kernel_rfl) (by kernel_rfl) (by rfl) (by exact Nat.le_of_ble_eq_true rfl) (fun k hk => ?_)⟩
 refine (w_5 l0 l1 k).trans ?_
 replace h : laws_FnSerial.f N l0 l1 = some t := h
 unfold laws_FnSerial.f at h
 refine br_ite h rfl (fun c128 h => ?_) (fun c128 h => ?_)
 ·cases h; exact hk
 refine br_ite h rfl (fun c129 h => ?_) (fun c129 h => ?_)
 ·cases h; exact hk
 refine call_h N h (fun t0 e130 h => ?_)
 refine call_h N h (fun t1 e131 h => ?_)
 refine call_h N h (fun t2 e132 h => ?_)
 refine call_h N h (fun t3 e133 h => ?_)
 refine br_etn h (congrArg not dect) (fun c134 h => ?_) (fun c134 h => ?_)
 ·cases h; exact hk
 refine br_etn h rfl (fun c135 h => ?_) (fun c135 h => ?_)
 ·cases h; exact hk
 exact (L_5 N) _ _ _ _ _ _ _ _ _ h hk
end Go.Proofs.Ytkkmhlfpombgfaa.PFnSerial
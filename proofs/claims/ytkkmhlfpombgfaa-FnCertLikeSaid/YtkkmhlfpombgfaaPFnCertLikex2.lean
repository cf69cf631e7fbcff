/- The machine's texts of FnCertLike (links). Conditions: none. -/
import Derived.Test.YtkkmhlfpombgfaaPFnCertLikex1
set_option linter.unusedVariables false
set_option linter.unusedSimpArgs false
set_option maxRecDepth 100000
set_option maxHeartbeats 4000000
namespace Go.Proofs.Ytkkmhlfpombgfaa.PFnCertLike
open Go.RowKit Go.Proofs.YtkkmhlfpombgfaaW.PrintWords Go.Proofs.YtkkmhlfpombgfaaW.PrintLast Go.Proofs.YtkkmhlfpombgfaaW.PrintMore
open Go Go.Proofs Am
theorem w_157 (a0_0 : Bool) (a0_1 : Int) (a0_2 : Int) (l0_3 : List S39) (l0_4 : List S82) (a0_5 : Int) (a0_6 : Int) (k : AV tau → Mem tau → Option Unit) : fnA E_157 C_157 D_157 Try.f157 B_157 [.agg [.bool a0_0, .int .i64 a0_1, .int .i64 a0_2, .own 0 0, .own 1 0, .int .i64 a0_5, .int .i64 a0_6]] ⟨[], [some ⟨39, l0_3, 0⟩, some ⟨82, l0_4, 0⟩]⟩ k = (brA a0_0 (k (.agg [.bool true, .int .i64 (0 : Int), .int .i64 (0 : Int), .own 0 0, .own 1 0, .int .i64 (0 : Int), .int .i64 (0 : Int)]) ⟨[], [some ⟨39, ([] : List S39), 0⟩, some ⟨82, ([] : List S82), 0⟩]⟩) (k (.agg [.bool a0_0, .int .i64 a0_1, .int .i64 a0_2, .own 0 0, .own 1 0, .int .i64 a0_5, .int .i64 a0_6]) ⟨[], [some ⟨39, l0_3, 0⟩, some ⟨82, l0_4, 0⟩]⟩) : Option Unit) := by kernel_rfl
theorem okc_157 (args : List (AV tau)) (m : Mem tau) (κ : AV tau → Mem tau → Option Unit) (hh : c_157 args m κ = some ()) : ∃ av m1, κ av m1 = some () ∧ ToldA Try.prog TT (pnT 157) 157 args m av m1 := by
 obtain ⟨bx_, rw_⟩ := m
 unfold c_157 at hh
 simp only at hh
 split at hh
 case h_2 => cases hh
 rename_i b0 b1 b2 b3 b4 b5 b6 r0 r1
 obtain ⟨a0_0, hx0, hh0⟩ := bO_some hh
 obtain ⟨a0_1, hx1, hh1⟩ := bO_some hh0
 obtain ⟨a0_2, hx2, hh2⟩ := bO_some hh1
 obtain ⟨u2, hx3, hh3⟩ := bO_some hh2
 obtain ⟨l0_3, hx4, hh4⟩ := bO_some hh3
 obtain ⟨u3, hx5, hh5⟩ := bO_some hh4
 obtain ⟨l0_4, hx6, hh6⟩ := bO_some hh5
 obtain ⟨a0_5, hx7, hh7⟩ := bO_some hh6
 obtain ⟨a0_6, hx8, hh8⟩ := bO_some hh7
 have ex0 := asB_some hx0
 have ex1 := asI_some hx1
 have ex2 := asI_some hx2
 have ex3 := asOwn_some hx3
 have ex4 := asRow_some hx4
 have ex5 := asOwn_some hx5
 have ex6 := asRow_some hx6
 have ex7 := asI_some hx7
 have ex8 := asI_some hx8
 subst ex0 ex1 ex2 ex3 ex4 ex5 ex6 ex7 ex8
 obtain ⟨N, t, h, hκ⟩ := callX_some hh8
 refine ⟨_, _, hκ, told_of_run pq okC_157 (fun _ _ _ => drawA_ok pq okC_157 hmix) (E := E_157) (fn := Try.f157) (body := B_157) (by kernel_rfl) (by kernel_rfl) (by kernel_rfl) (by rfl) (by exact Nat.le_of_ble_eq_true rfl) (fun k hk => ?_)⟩
 refine (w_157 a0_0 a0_1 a0_2 l0_3 l0_4 a0_5 a0_6 k).trans ?_
 replace h : spec_l5Fix.f a0_0 a0_1 a0_2 l0_3 l0_4 a0_5 a0_6 = some t := h
 unfold spec_l5Fix.f at h
 refine br_eti h dect (fun c4 h => ?_) (fun c4 h => ?_)
 ·cases h; exact hk
 cases h; exact hk
noncomputable def C_118 : Ctr tau Unit := ctrS 157 c_157 C_157
noncomputable def D_118 : Drw tau := drawA E_118 C_118
theorem okC_118 : CtrOk Try.prog TT pnT C_118 := ctrS_ok okC_157 okc_157
theorem mC_118 : CtrMono C_118 := ctrS_mono mC_157 mc_157
theorem mD_118 : DrMono D_118 := drawA_mono mC_118
noncomputable def B_118 : Code := Try.f118.body.getD .skip
theorem mc_118 (args : List (AV tau)) (m : Mem tau) (k k' : AV tau → Mem tau → Option Unit) (hk : ∀ av m, k av m = some () → k' av m = some ()) (h : c_118 args m k = some ()) : c_118 args m k' = some () := by
 unfold c_118 at h ⊢
 split at h
 · repeat' first | exact callX_mono (fun _ h => hk _ _ h) h | refine bO_mono (fun _ h => ?_) h
 · cases h
noncomputable def K_118_0 (k : AV tau → Mem tau → Option Unit) : Kon tau := (kBlock 0 (kS E_118 C_118 D_118 (codeP B_118 [1, 1, 1]) (kEnd E_118 Try.f118 k)))
def st_118_0 (x0 : Int) (x1 : (List Int)) (x2 : Int) (x3 : Int) (x4 : Int) (x5 : (List S37)) (x6 : (List S84)) (x7 : (List S37)) (x8 : (List S84)) : St tau := ⟨tmL 73 0 [(0, .ptr 0 0), (2, .ptr 1 0), (3, .ptr 2 0), (4, .int .i64 x0)], ⟨[some (172, [.sl 5 x1, .int .i64 x2]), some (69, [.int .i64 x3, .own 0 0, .own 1 0]), some (69, [.int .i64 x4, .own 2 0, .own 3 0])], [some ⟨37, x5, 0⟩, some ⟨84, x6, 0⟩, some ⟨37, x7, 0⟩, some ⟨84, x8, 0⟩]⟩⟩
noncomputable def LP_118_0 (k : AV tau → Mem tau → Option Unit) (x0 : Int) (x1 : (List Int)) (x2 : Int) (x3 : Int) (x4 : Int) (x5 : (List S37)) (x6 : (List S84)) (x7 : (List S37)) (x8 : (List S84)) : Option Unit := loopA E_118 (codeA E_118 C_118 D_118 (codeP B_118 [1, 1, 0, 1, 0, 0])) (codeP B_118 [1, 1, 0, 1, 0, 0]) (K_118_0 k) (st_118_0 x0 x1 x2 x3 x4 x5 x6 x7 x8)
theorem w_118_0 (k : AV tau → Mem tau → Option Unit) (x0 : Int) (x1 : (List Int)) (x2 : Int) (x3 : Int) (x4 : Int) (x5 : (List S37)) (x6 : (List S84)) (x7 : (List S37)) (x8 : (List S84)) : codeA E_118 C_118 D_118 (codeP B_118 [1, 1, 0, 1, 0, 0]) (kL E_118 C_118 D_118 (codeP B_118 [1, 1, 0, 1, 0, 0]) (K_118_0 k)) (st_118_0 x0 x1 x2 x3 x4 x5 x6 x7 x8) = (brA (decide (x0 > (0 : Int))) (callX (fun n => spec_l5Any.f n x1 x2 x7) fun t2 => callX (fun n => spec_CertEntry.f n t2.1 t2.2.1 t2.2.2.1 t2.2.2.2.1 t2.2.2.2.2.1 t2.2.2.2.2.2.1 t2.2.2.2.2.2.2.1) fun t3 => brA t3 (callX (fun n => spec_l15Rd_num.f n x1 t2.2.2.2.2.2.2.2 ([t2.2.2.1, (wrap64 (x4 + (1 : Int)))] : List Int)) fun t4 => andA (callX (fun n => spec_l5Fix.f t2.1 t2.2.1 t4.1 t2.2.2.2.1 t2.2.2.2.2.1 t2.2.2.2.2.2.1 t2.2.2.2.2.2.2.1) fun t5 => andA (callX (fun n => spec_l5Apply.f n x4 x7 x8 t5.1 t5.2.1 t5.2.2.1 t5.2.2.2.1 t5.2.2.2.2.1 t5.2.2.2.2.2.1 t5.2.2.2.2.2.2) fun t6 => LP_118_0 k (wrap64 (x0 - (1 : Int))) x1 t4.2 x3 t6.1 x5 x6 t6.2.1 t6.2.2.1) (callX (fun n => spec_l5Apply.f n x4 x7 x8 t5.1 t5.2.1 t5.2.2.1 t5.2.2.2.1 t5.2.2.2.2.1 t5.2.2.2.2.2.1 t5.2.2.2.2.2.2) fun t7 => LP_118_0 k (wrap64 (x0 - (1 : Int))) x1 t4.2 x3 t7.1 x5 x6 t7.2.1 t7.2.2.1)) (callX (fun n => spec_l5Fix.f t2.1 t2.2.1 t4.1 t2.2.2.2.1 t2.2.2.2.2.1 t2.2.2.2.2.2.1 t2.2.2.2.2.2.2.1) fun t8 => callX (fun n => spec_l5Apply.f n x4 x7 x8 t8.1 t8.2.1 t8.2.2.1 t8.2.2.2.1 t8.2.2.2.2.1 t8.2.2.2.2.2.1 t8.2.2.2.2.2.2) fun t9 => LP_118_0 k (wrap64 (x0 - (1 : Int))) x1 t4.2 x3 t9.1 x5 x6 t9.2.1 t9.2.2.1)) (LP_118_0 k (wrap64 (x0 - (1 : Int))) x1 t2.2.2.2.2.2.2.2 x3 x4 x5 x6 x7 x8)) (callX (fun n => spec_l15Rd_pick.f n x1 x2 (40 : Int)) fun t10 => brA (decide (t10.1 = (0 : Int))) (callX (fun n => spec_l15Rd_num.f n x1 t10.2 ([(-(1 : Int)), (40 : Int), (41 : Int)] : List Int)) fun t11 => k (.agg [.int .i64 t11.1, .own 0 0, .own 1 0]) ⟨[some (172, [.sl 5 x1, .int .i64 t11.2])], [some ⟨37, x7, 0⟩, some ⟨84, x8, 0⟩]⟩) (brA (decide (t10.1 = (1 : Int))) (brA (decide ((1 : Int) ≤ ((x7.length : Nat) : Int))) (k (.agg [.int .i64 x4, .own 0 0, .own 1 0]) ⟨[some (172, [.sl 5 x1, .int .i64 t10.2])], [some ⟨37, (List.take 1 x7), 0⟩, some ⟨84, x8, 0⟩]⟩) (none)) (brA (decide (t10.1 = (2 : Int))) (callX (fun n => spec_l15Rd_pick.f n x1 t10.2 (4 : Int)) fun t12 => callX (fun n => spec_l15Rd_pick.f n x1 t12.2 (3 : Int)) fun t13 => callX (fun n => spec_l15Rd_pick.f n x1 t13.2 (2 : Int)) fun t14 => callX (fun n => spec_l15Rd_pick.f n x1 t14.2 (4 : Int)) fun t15 => brA (decide ((x8.length + 1) ≤ 4398046511104)) (k (.agg [.int .i64 x4, .own 0 0, .own 1 0]) ⟨[some (172, [.sl 5 x1, .int .i64 t15.2])], [some ⟨37, x7, 0⟩, some ⟨84, (x8 ++ ([(⟨(⟨t12.1, t13.1⟩ : S75), t15.1, t14.1⟩ : S84)] : List S84)), 0⟩]⟩) (none)) (k (.agg [.int .i64 x4, .own 0 0, .own 1 0]) ⟨[some (172, [.sl 5 x1, .int .i64 t10.2])], [some ⟨37, x7, 0⟩, some ⟨84, x8, 0⟩]⟩)))) : Option Unit) := by kernel_rfl
theorem w_118 (s0_0 : List Int) (s0_1 : Int) (k : AV tau → Mem tau → Option Unit) : fnA E_118 C_118 D_118 Try.f118 B_118 [.ptr 0 0] ⟨[some (172, [.sl 5 s0_0, .int .i64 s0_1])], []⟩ k = (callX (fun n => spec_CertOpen.f ) fun t0 => callX (fun n => spec_l15Rd_num.f n s0_0 s0_1 ([(0 : Int), (3 : Int), (8 : Int), (12 : Int)] : List Int)) fun t1 => LP_118_0 k t1.1 s0_0 t1.2 (0 : Int) t0.1 ([] : List S37) ([] : List S84) t0.2.1 t0.2.2 : Option Unit) := by kernel_rfl
def S_118_0 (N : Nat) : Prop := ∀ (k : AV tau → Mem tau → Option Unit) (x0 : Int) (x1 : (List Int)) (x2 : Int) (x3 : Int) (x4 : Int) (x5 : (List S37)) (x6 : (List S84)) (x7 : (List S37)) (x8 : (List S84)) (r : Int × (List (S37)) × (List (S84)) × Int), spec_l5State.l0 N (x0) (x1) (x2) (x4) (x7) (x8) = some r → k (.agg [.int .i64 (r.1), .own 0 0, .own 1 0]) ⟨[some (172, [.sl 5 ((x1)), .int .i64 (r.2.2.2)])], [some ⟨37, r.2.1, 0⟩, some ⟨84, r.2.2.1, 0⟩]⟩ = some () → LP_118_0 k x0 x1 x2 x3 x4 x5 x6 x7 x8 = some ()
theorem L_118 (N : Nat) : S_118_0 N := by
 induction N using Nat.strongRecOn with | _ N0 ih =>
 skip
 intro k x0 x1 x2 x3 x4 x5 x6 x7 x8 r h hk
 rcases N0 with _ | N
 · cases h
 first | rw [spec_l5State.l0] at h | simp only [spec_l5State.l0] at h | (unfold spec_l5State.l0 at h; dsimp only at h)
 refine loop_fold mC_118 mD_118 ?_
 refine (w_118_0 k x0 x1 x2 x3 x4 x5 x6 x7 x8).trans ?_
 refine br_eti h rfl (fun c47 h => ?_) (fun c47 h => ?_)
 ·refine call_h N h (fun t10 e48 h => ?_)
  refine br_ite h rfl (fun c49 h => ?_) (fun c49 h => ?_)
  ·refine call_h N h (fun t11 e50 h => ?_)
   cases h; exact hk
  refine br_ite h rfl (fun c51 h => ?_) (fun c51 h => ?_)
  ·refine br_g h rfl (fun c52 h => ?_)
   cases h; exact hk
  refine br_eti h rfl (fun c53 h => ?_) (fun c53 h => ?_)
  ·cases h; exact hk
  refine call_h N h (fun t12 e54 h => ?_)
  refine call_h N h (fun t13 e55 h => ?_)
  refine call_h N h (fun t14 e56 h => ?_)
  refine call_h N h (fun t15 e57 h => ?_)
  refine br_g h (by first | rfl | exact dect | exact (congrArg not dect) | (simp; done) | (simp [beqI]; done) | (simp; omega)) (fun c58 h => ?_)
  cases h; exact hk
 refine call_h N h (fun t2 e59 h => ?_)
 refine call_h N h (fun t3 e60 h => ?_)
 refine br_eti h dect (fun c61 h => ?_) (fun c61 h => ?_)
 ·exact (ih N (by omega)) _ _ _ _ _ _ _ _ _ _ _ h hk
 refine call_h N h (fun t4 e62 h => ?_)
 refine andA_of ?_ ?_
 ·refine call_h 0 h (fun t5 e63 h => ?_)
  refine andA_of ?_ ?_
  ·refine call_h N h (fun t6 e64 h => ?_)
   exact (ih N (by omega)) _ _ _ _ _ _ _ _ _ _ _ h hk
  refine call_h N h (fun t7 e65 h => ?_)
  exact (ih N (by omega)) _ _ _ _ _ _ _ _ _ _ _ h hk
 refine call_h 0 h (fun t8 e66 h => ?_)
 refine call_h N h (fun t9 e67 h => ?_)
 exact (ih N (by omega)) _ _ _ _ _ _ _ _ _ _ _ h hk
theorem okc_118 (args : List (AV tau)) (m : Mem tau) (κ : AV tau → Mem tau → Option Unit) (hh : c_118 args m κ = some ()) : ∃ av m1, κ av m1 = some () ∧ ToldA Try.prog TT (pnT 118) 118 args m av m1 := by
 obtain ⟨bx_, rw_⟩ := m
 unfold c_118 at hh
 simp only at hh
 split at hh
 case h_2 => cases hh
 rename_i p0 t0_ c0_0 c0_1
 obtain ⟨u68, hx0, hh0⟩ := bO_some hh
 obtain ⟨u69, hx1, hh1⟩ := bO_some hh0
 obtain ⟨s0_0, hx2, hh2⟩ := bO_some hh1
 obtain ⟨s0_1, hx3, hh3⟩ := bO_some hh2
 have ex0 := asPtr_some hx0
 have ex1 := asT_some hx1
 have ex2 := asSl_some hx2
 have ex3 := asI_some hx3
 subst ex0 ex1 ex2 ex3
 obtain ⟨N, t, h, hκ⟩ := callX_some hh3
 refine ⟨_, _, hκ, told_of_run pq okC_118 (fun _ _ _ => drawA_ok pq okC_118 hmix) (E := E_118) (fn := Try.f118) (body := B_118) (by kernel_rfl) (by kernel_rfl) (by kernel_rfl) (by rfl) (by exact Nat.le_of_ble_eq_true rfl) (fun k hk => ?_)⟩
 refine (w_118 s0_0 s0_1 k).trans ?_
 replace h : spec_l5State.f N s0_0 s0_1 = some t := h
 unfold spec_l5State.f at h
 refine call_h 0 h (fun t0 e70 h => ?_)
 refine call_h N h (fun t1 e71 h => ?_)
 exact (L_118 N) _ _ _ _ _ _ _ _ _ _ _ h hk
noncomputable def C_58 : Ctr tau Unit := ctrS 118 c_118 C_118
noncomputable def D_58 : Drw tau := drawA E_58 C_58
theorem okC_58 : CtrOk Try.prog TT pnT C_58 := ctrS_ok okC_118 okc_118
theorem mC_58 : CtrMono C_58 := ctrS_mono mC_118 mc_118
theorem mD_58 : DrMono D_58 := drawA_mono mC_58
noncomputable def B_58 : Code := Try.f58.body.getD .skip
theorem mc_58 (args : List (AV tau)) (m : Mem tau) (k k' : AV tau → Mem tau → Option Unit) (hk : ∀ av m, k av m = some () → k' av m = some ()) (h : c_58 args m k = some ()) : c_58 args m k' = some () := by
 unfold c_58 at h ⊢
 split at h
 · repeat' first | exact callX_mono (fun _ h => hk _ _ h) h | refine bO_mono (fun _ h => ?_) h
 · cases h
theorem w_58 (a0_0 : Bool) (a0_1 : Int) (a0_2 : Int) (l0_3 : List S39) (l0_4 : List S82) (a0_5 : Int) (a0_6 : Int) (a1_0 : Bool) (a1_1 : Int) (a1_2 : Int) (l1_3 : List S39) (l1_4 : List S82) (a1_5 : Int) (a1_6 : Int) (k : AV tau → Mem tau → Option Unit) : fnA E_58 C_58 D_58 Try.f58 B_58 [.agg [.bool a0_0, .int .i64 a0_1, .int .i64 a0_2, .sl 39 l0_3, .sl 82 l0_4, .int .i64 a0_5, .int .i64 a0_6], .agg [.bool a1_0, .int .i64 a1_1, .int .i64 a1_2, .sl 39 l1_3, .sl 82 l1_4, .int .i64 a1_5, .int .i64 a1_6]] ⟨[], []⟩ k = (brA (a0_0 == a1_0) (brA ((a0_1 == a1_1) && (a0_2 == a1_2)) (callX (fun n => spec_ExecSame.f n l0_3 l0_4 a0_5 a0_6 l1_3 l1_4 a1_5 a1_6) fun t0 => k (.bool t0) ⟨[], []⟩) (k (.bool false) ⟨[], []⟩)) (k (.bool false) ⟨[], []⟩) : Option Unit) := by kernel_rfl
theorem okc_58 (args : List (AV tau)) (m : Mem tau) (κ : AV tau → Mem tau → Option Unit) (hh : c_58 args m κ = some ()) : ∃ av m1, κ av m1 = some () ∧ ToldA Try.prog TT (pnT 58) 58 args m av m1 := by
 obtain ⟨bx_, rw_⟩ := m
 unfold c_58 at hh
 simp only at hh
 split at hh
 case h_2 => cases hh
 rename_i b0 b1 b2 b3 b4 b5 b6 b7 b8 b9 b10 b11 b12 b13
 obtain ⟨a0_0, hx0, hh0⟩ := bO_some hh
 obtain ⟨a0_1, hx1, hh1⟩ := bO_some hh0
 obtain ⟨a0_2, hx2, hh2⟩ := bO_some hh1
 obtain ⟨l0_3, hx3, hh3⟩ := bO_some hh2
 obtain ⟨l0_4, hx4, hh4⟩ := bO_some hh3
 obtain ⟨a0_5, hx5, hh5⟩ := bO_some hh4
 obtain ⟨a0_6, hx6, hh6⟩ := bO_some hh5
 obtain ⟨a1_0, hx7, hh7⟩ := bO_some hh6
 obtain ⟨a1_1, hx8, hh8⟩ := bO_some hh7
 obtain ⟨a1_2, hx9, hh9⟩ := bO_some hh8
 obtain ⟨l1_3, hx10, hh10⟩ := bO_some hh9
 obtain ⟨l1_4, hx11, hh11⟩ := bO_some hh10
 obtain ⟨a1_5, hx12, hh12⟩ := bO_some hh11
 obtain ⟨a1_6, hx13, hh13⟩ := bO_some hh12
 have ex0 := asB_some hx0
 have ex1 := asI_some hx1
 have ex2 := asI_some hx2
 have ex3 := asSl_some hx3
 have ex4 := asSl_some hx4
 have ex5 := asI_some hx5
 have ex6 := asI_some hx6
 have ex7 := asB_some hx7
 have ex8 := asI_some hx8
 have ex9 := asI_some hx9
 have ex10 := asSl_some hx10
 have ex11 := asSl_some hx11
 have ex12 := asI_some hx12
 have ex13 := asI_some hx13
 subst ex0 ex1 ex2 ex3 ex4 ex5 ex6 ex7 ex8 ex9 ex10 ex11 ex12 ex13
 obtain ⟨N, t, h, hκ⟩ := callX_some hh13
 refine ⟨_, _, hκ, told_of_run pq okC_58 (fun _ _ _ => drawA_ok pq okC_58 hmix) (E := E_58) (fn := Try.f58) (body := B_58) (by kernel_rfl) (by kernel_rfl) (by kernel_rfl) (by rfl) (by exact Nat.le_of_ble_eq_true rfl) (fun k hk => ?_)⟩
 refine (w_58 a0_0 a0_1 a0_2 l0_3 l0_4 a0_5 a0_6 a1_0 a1_1 a1_2 l1_3 l1_4 a1_5 a1_6 k).trans ?_
 replace h : spec_CertLike.f N a0_0 a0_1 a0_2 l0_3 l0_4 a0_5 a0_6 a1_0 a1_1 a1_2 l1_3 l1_4 a1_5 a1_6 = some t := h
 unfold spec_CertLike.f at h
 refine br_eti h (by first | rfl | exact dect | exact (congrArg not dect) | (simp; done) | (simp [beqI]; done) | (simp; omega)) (fun c4 h => ?_) (fun c4 h => ?_)
 ·cases h; exact hk
 refine br_eti h (by first | rfl | exact dect | exact (congrArg not dect) | (simp; done) | (simp [beqI]; done) | (simp; omega)) (fun c5 h => ?_) (fun c5 h => ?_)
 ·cases h; exact hk
 refine call_h N h (fun t0 e6 h => ?_)
 cases h; exact hk
noncomputable def C_124 : Ctr tau Unit := ctrS 58 c_58 C_58
noncomputable def D_124 : Drw tau := drawA E_124 C_124
theorem okC_124 : CtrOk Try.prog TT pnT C_124 := ctrS_ok okC_58 okc_58
theorem mC_124 : CtrMono C_124 := ctrS_mono mC_58 mc_58
theorem mD_124 : DrMono D_124 := drawA_mono mC_124
noncomputable def B_124 : Code := Try.f124.body.getD .skip
theorem mc_124 (args : List (AV tau)) (m : Mem tau) (k k' : AV tau → Mem tau → Option Unit) (hk : ∀ av m, k av m = some () → k' av m = some ()) (h : c_124 args m k = some ()) : c_124 args m k' = some () := by
 unfold c_124 at h ⊢
 split at h
 · repeat' first | exact callX_mono (fun _ h => hk _ _ h) h | refine bO_mono (fun _ h => ?_) h
 · cases h
noncomputable def K_124_0 (k : AV tau → Mem tau → Option Unit) : Kon tau := (kBlock 0 (kS E_124 C_124 D_124 (codeP B_124 [1, 1, 1]) (kEnd E_124 Try.f124 k)))
def st_124_0 (x0 : (List S37)) (x1 : (List S37)) (x2 : Int) : St tau := ⟨tmL 26 0 [(0, .sl 37 x0), (1, .sl 37 x1), (5, .int .i64 x2)], ⟨[], []⟩⟩
noncomputable def LP_124_0 (k : AV tau → Mem tau → Option Unit) (x0 : (List S37)) (x1 : (List S37)) (x2 : Int) : Option Unit := loopA E_124 (codeA E_124 C_124 D_124 (codeP B_124 [1, 1, 0, 1, 0, 0])) (codeP B_124 [1, 1, 0, 1, 0, 0]) (K_124_0 k) (st_124_0 x0 x1 x2)
theorem w_124_0 (k : AV tau → Mem tau → Option Unit) (x0 : (List S37)) (x1 : (List S37)) (x2 : Int) : codeA E_124 C_124 D_124 (codeP B_124 [1, 1, 0, 1, 0, 0]) (kL E_124 C_124 D_124 (codeP B_124 [1, 1, 0, 1, 0, 0]) (K_124_0 k)) (st_124_0 x0 x1 x2) = (brA (decide (x2 < ((x0.length : Nat) : Int))) (brA (decide ((0 : Int) ≤ x2)) (brA (decide (x2 < ((x0.length : Nat) : Int))) (brA (decide ((0 : Int) ≤ x2)) (brA (decide (x2 < ((x1.length : Nat) : Int))) (brA (!(((rd_T37 x0 x2).f0 == (rd_T37 x1 x2).f0) && ((rd_T37 x0 x2).f1 == (rd_T37 x1 x2).f1))) (k (.bool false) ⟨[], []⟩) (LP_124_0 k x0 x1 (wrap64 (x2 + (1 : Int))))) (none)) (none)) (none)) (none)) (k (.bool true) ⟨[], []⟩) : Option Unit) := by kernel_rfl
theorem w_124 (l0 : List S37) (l1 : List S37) (k : AV tau → Mem tau → Option Unit) : fnA E_124 C_124 D_124 Try.f124 B_124 [.sl 37 l0, .sl 37 l1] ⟨[], []⟩ k = (brA (!(decide (((l0.length : Nat) : Int) = ((l1.length : Nat) : Int)))) (k (.bool false) ⟨[], []⟩) (LP_124_0 k l0 l1 (0 : Int)) : Option Unit) := by kernel_rfl
def S_124_0 (N : Nat) : Prop := ∀ (k : AV tau → Mem tau → Option Unit) (x0 : (List S37)) (x1 : (List S37)) (x2 : Int) (r : Bool), spec_BoxSame.l0 N (x0) (x1) (x2) = some r → k (.bool (r)) ⟨[], []⟩ = some () → LP_124_0 k x0 x1 x2 = some ()
theorem L_124 (N : Nat) : S_124_0 N := by
 induction N using Nat.strongRecOn with | _ N0 ih =>
 skip
 intro k x0 x1 x2 r h hk
 rcases N0 with _ | N
 · cases h
 first | rw [spec_BoxSame.l0] at h | simp only [spec_BoxSame.l0] at h | (unfold spec_BoxSame.l0 at h; dsimp only at h)
 refine loop_fold mC_124 mD_124 ?_
 refine (w_124_0 k x0 x1 x2).trans ?_
 refine br_eti h rfl (fun c11 h => ?_) (fun c11 h => ?_)
 ·cases h; exact hk
 refine br_g h rfl (fun c12 h => ?_)
 refine br_t (by first | (simp [c11]; done) | (simp; omega) | (simp_all; done)) ?_
 refine br_t (by first | (simp [c12]; done) | (simp; omega) | (simp_all; done)) ?_
 refine br_g h rfl (fun c13 h => ?_)
 refine br_ite h (by first | rfl | exact dect | exact (congrArg not dect) | (simp; done) | (simp [beqI]; done) | (simp; omega)) (fun c14 h => ?_) (fun c14 h => ?_)
 ·cases h; exact hk
 exact (ih N (by omega)) _ _ _ _ _ h hk
theorem okc_124 (args : List (AV tau)) (m : Mem tau) (κ : AV tau → Mem tau → Option Unit) (hh : c_124 args m κ = some ()) : ∃ av m1, κ av m1 = some () ∧ ToldA Try.prog TT (pnT 124) 124 args m av m1 := by
 obtain ⟨bx_, rw_⟩ := m
 unfold c_124 at hh
 simp only at hh
 split at hh
 case h_2 => cases hh
 rename_i b0 b1
 obtain ⟨l0, hx0, hh0⟩ := bO_some hh
 obtain ⟨l1, hx1, hh1⟩ := bO_some hh0
 have ex0 := asSl_some hx0
 have ex1 := asSl_some hx1
 subst ex0 ex1
 obtain ⟨N, t, h, hκ⟩ := callX_some hh1
 refine ⟨_, _, hκ, told_of_run pq okC_124 (fun _ _ _ => drawA_ok pq okC_124 hmix) (E := E_124) (fn := Try.f124) (body := B_124) (by kernel_rfl) (by kernel_rfl) (by kernel_rfl) (by rfl) (by exact Nat.le_of_ble_eq_true rfl) (fun k hk => ?_)⟩
 refine (w_124 l0 l1 k).trans ?_
 replace h : spec_BoxSame.f N l0 l1 = some t := h
 unfold spec_BoxSame.f at h
 refine br_etn h rfl (fun c15 h => ?_) (fun c15 h => ?_)
 ·cases h; exact hk
 exact (L_124 N) _ _ _ _ _ h hk
noncomputable def C_59 : Ctr tau Unit := ctrS 124 c_124 C_124
noncomputable def D_59 : Drw tau := drawA E_59 C_59
theorem okC_59 : CtrOk Try.prog TT pnT C_59 := ctrS_ok okC_124 okc_124
theorem mC_59 : CtrMono C_59 := ctrS_mono mC_124 mc_124
theorem mD_59 : DrMono D_59 := drawA_mono mC_59
noncomputable def B_59 : Code := Try.f59.body.getD .skip
theorem mc_59 (args : List (AV tau)) (m : Mem tau) (k k' : AV tau → Mem tau → Option Unit) (hk : ∀ av m, k av m = some () → k' av m = some ()) (h : c_59 args m k = some ()) : c_59 args m k' = some () := by
 unfold c_59 at h ⊢
 split at h
 · repeat' first | exact callX_mono (fun _ h => hk _ _ h) h | refine bO_mono (fun _ h => ?_) h
 · cases h
noncomputable def K_59_0 (k : AV tau → Mem tau → Option Unit) : Kon tau := (kBlock 0 (kS E_59 C_59 D_59 (codeP B_59 [1, 1, 1]) (kEnd E_59 Try.f59 k)))
def st_59_0 (x0 : Int) (x1 : Int) (x2 : (List S37)) (x3 : (List S84)) (x4 : Int) (x5 : (List S37)) (x6 : (List S84)) : St tau := ⟨tmL 46 0 [(2, .ptr 0 0), (3, .ptr 1 0), (5, .int .i64 x0)], ⟨[some (69, [.int .i64 x1, .sl 37 x2, .sl 84 x3]), some (69, [.int .i64 x4, .sl 37 x5, .sl 84 x6])], []⟩⟩
noncomputable def LP_59_0 (k : AV tau → Mem tau → Option Unit) (x0 : Int) (x1 : Int) (x2 : (List S37)) (x3 : (List S84)) (x4 : Int) (x5 : (List S37)) (x6 : (List S84)) : Option Unit := loopA E_59 (codeA E_59 C_59 D_59 (codeP B_59 [1, 1, 0, 1, 0, 0])) (codeP B_59 [1, 1, 0, 1, 0, 0]) (K_59_0 k) (st_59_0 x0 x1 x2 x3 x4 x5 x6)
theorem w_59_0 (k : AV tau → Mem tau → Option Unit) (x0 : Int) (x1 : Int) (x2 : (List S37)) (x3 : (List S84)) (x4 : Int) (x5 : (List S37)) (x6 : (List S84)) : codeA E_59 C_59 D_59 (codeP B_59 [1, 1, 0, 1, 0, 0]) (kL E_59 C_59 D_59 (codeP B_59 [1, 1, 0, 1, 0, 0]) (K_59_0 k)) (st_59_0 x0 x1 x2 x3 x4 x5 x6) = (brA (decide (x0 < ((x3.length : Nat) : Int))) (brA (decide ((0 : Int) ≤ x0)) (brA (decide (x0 < ((x3.length : Nat) : Int))) (brA (decide ((0 : Int) ≤ x0)) (brA (decide (x0 < ((x6.length : Nat) : Int))) (brA (!(((((rd_T84 x3 x0).f0).f0 == ((rd_T84 x6 x0).f0).f0) && (((rd_T84 x3 x0).f0).f1 == ((rd_T84 x6 x0).f0).f1)) && (((rd_T84 x3 x0).f1 == (rd_T84 x6 x0).f1) && ((rd_T84 x3 x0).f2 == (rd_T84 x6 x0).f2)))) (k (.bool false) ⟨[], []⟩) (LP_59_0 k (wrap64 (x0 + (1 : Int))) x1 x2 x3 x4 x5 x6)) (none)) (none)) (none)) (none)) (k (.bool true) ⟨[], []⟩) : Option Unit) := by kernel_rfl
theorem w_59 (a0_0 : Int) (l0_1 : List S37) (l0_2 : List S84) (a1_0 : Int) (l1_1 : List S37) (l1_2 : List S84) (k : AV tau → Mem tau → Option Unit) : fnA E_59 C_59 D_59 Try.f59 B_59 [.agg [.int .i64 a0_0, .sl 37 l0_1, .sl 84 l0_2], .agg [.int .i64 a1_0, .sl 37 l1_1, .sl 84 l1_2]] ⟨[], []⟩ k = (brA (!(decide (a0_0 = a1_0))) (k (.bool false) ⟨[], []⟩) (callX (fun n => spec_BoxSame.f n l0_1 l1_1) fun t0 => brA (!t0) (k (.bool false) ⟨[], []⟩) (brA (!(decide (((l0_2.length : Nat) : Int) = ((l1_2.length : Nat) : Int)))) (k (.bool false) ⟨[], []⟩) (LP_59_0 k (0 : Int) a0_0 l0_1 l0_2 a1_0 l1_1 l1_2))) : Option Unit) := by kernel_rfl
def S_59_0 (N : Nat) : Prop := ∀ (k : AV tau → Mem tau → Option Unit) (x0 : Int) (x1 : Int) (x2 : (List S37)) (x3 : (List S84)) (x4 : Int) (x5 : (List S37)) (x6 : (List S84)) (r : Bool), spec_CertSame.l0 N (x0) (x1) (x2) (x3) (x4) (x5) (x6) = some r → k (.bool (r)) ⟨[], []⟩ = some () → LP_59_0 k x0 x1 x2 x3 x4 x5 x6 = some ()
theorem L_59 (N : Nat) : S_59_0 N := by
 induction N using Nat.strongRecOn with | _ N0 ih =>
 skip
 intro k x0 x1 x2 x3 x4 x5 x6 r h hk
 rcases N0 with _ | N
 · cases h
 first | rw [spec_CertSame.l0] at h | simp only [spec_CertSame.l0] at h | (unfold spec_CertSame.l0 at h; dsimp only at h)
 refine loop_fold mC_59 mD_59 ?_
 refine (w_59_0 k x0 x1 x2 x3 x4 x5 x6).trans ?_
 refine br_eti h rfl (fun c17 h => ?_) (fun c17 h => ?_)
 ·cases h; exact hk
 refine br_g h rfl (fun c18 h => ?_)
 refine br_t (by first | (simp [c17]; done) | (simp; omega) | (simp_all; done)) ?_
 refine br_t (by first | (simp [c18]; done) | (simp; omega) | (simp_all; done)) ?_
 refine br_g h rfl (fun c19 h => ?_)
 refine br_ite h (by first | rfl | exact dect | exact (congrArg not dect) | (simp; done) | (simp [beqI]; done) | (simp; omega)) (fun c20 h => ?_) (fun c20 h => ?_)
 ·cases h; exact hk
 exact (ih N (by omega)) _ _ _ _ _ _ _ _ _ h hk
theorem okc_59 (args : List (AV tau)) (m : Mem tau) (κ : AV tau → Mem tau → Option Unit) (hh : c_59 args m κ = some ()) : ∃ av m1, κ av m1 = some () ∧ ToldA Try.prog TT (pnT 59) 59 args m av m1 := by
 obtain ⟨bx_, rw_⟩ := m
 unfold c_59 at hh
 simp only at hh
 split at hh
 case h_2 => cases hh
 rename_i b0 b1 b2 b3 b4 b5
 obtain ⟨a0_0, hx0, hh0⟩ := bO_some hh
 obtain ⟨l0_1, hx1, hh1⟩ := bO_some hh0
 obtain ⟨l0_2, hx2, hh2⟩ := bO_some hh1
 obtain ⟨a1_0, hx3, hh3⟩ := bO_some hh2
 obtain ⟨l1_1, hx4, hh4⟩ := bO_some hh3
 obtain ⟨l1_2, hx5, hh5⟩ := bO_some hh4
 have ex0 := asI_some hx0
 have ex1 := asSl_some hx1
 have ex2 := asSl_some hx2
 have ex3 := asI_some hx3
 have ex4 := asSl_some hx4
 have ex5 := asSl_some hx5
 subst ex0 ex1 ex2 ex3 ex4 ex5
 obtain ⟨N, t, h, hκ⟩ := callX_some hh5
 refine ⟨_, _, hκ, told_of_run pq okC_59 (fun _ _ _ => drawA_ok pq okC_59 hmix) (E := E_59) (fn := Try.f59) (body := B_59) (by kernel_rfl) (by kernel_rfl) (by kernel_rfl) (by rfl) (by exact Nat.le_of_ble_eq_true rfl) (fun k hk => ?_)⟩
 refine (w_59 a0_0 l0_1 l0_2 a1_0 l1_1 l1_2 k).trans ?_
 replace h : spec_CertSame.f N a0_0 l0_1 l0_2 a1_0 l1_1 l1_2 = some t := h
 unfold spec_CertSame.f at h
 refine br_etn h rfl (fun c21 h => ?_) (fun c21 h => ?_)
 ·rcases N with _ | N
  · cases h
  first | rw [spec_CertSame.j0] at h | simp only [spec_CertSame.j0] at h | (unfold spec_CertSame.j0 at h; dsimp only at h)
  replace h := ite_t h (by first | assumption | omega | simp_all)
  cases h; exact hk
 refine call_h N h (fun t0 e22 h => ?_)
 refine br_etn h (congrArg not dect) (fun c23 h => ?_) (fun c23 h => ?_)
 ·rcases N with _ | N
  · cases h
  first | rw [spec_CertSame.j0] at h | simp only [spec_CertSame.j0] at h | (unfold spec_CertSame.j0 at h; dsimp only at h)
  replace h := ite_t h (by first | assumption | omega | simp_all)
  cases h; exact hk
 rcases N with _ | N
 · cases h
 first | rw [spec_CertSame.j0] at h | simp only [spec_CertSame.j0] at h | (unfold spec_CertSame.j0 at h; dsimp only at h)
 refine br_ite h (by first | rfl | exact dect | exact (congrArg not dect) | (simp; done) | (simp [beqI]; done) | (simp; omega)) (fun c24 h => ?_) (fun c24 h => ?_)
 ·cases h; exact hk
 exact (L_59 N) _ _ _ _ _ _ _ _ _ h hk
noncomputable def C_56 : Ctr tau Unit := ctrS 59 c_59 C_59
noncomputable def D_56 : Drw tau := drawA E_56 C_56
theorem okC_56 : CtrOk Try.prog TT pnT C_56 := ctrS_ok okC_59 okc_59
theorem mC_56 : CtrMono C_56 := ctrS_mono mC_59 mc_59
theorem mD_56 : DrMono D_56 := drawA_mono mC_56
noncomputable def B_56 : Code := Try.f56.body.getD .skip
theorem mc_56 (args : List (AV tau)) (m : Mem tau) (k k' : AV tau → Mem tau → Option Unit) (hk : ∀ av m, k av m = some () → k' av m = some ()) (h : c_56 args m k = some ()) : c_56 args m k' = some () := by
 unfold c_56 at h ⊢
 split at h
 · repeat' first | exact callX_mono (fun _ h => hk _ _ h) h | refine bO_mono (fun _ h => ?_) h
 · cases h
theorem w_56 (l0 : List Int) (k : AV tau → Mem tau → Option Unit) : fnA E_56 C_56 D_56 Try.f56 B_56 [.sl 5 l0] ⟨[], []⟩ k = (callX (fun n => spec_l15Open.f l0) fun t0 => callX (fun n => spec_l5State.f n t0.1 t0.2) fun t1 => callX (fun n => spec_l15Open.f l0) fun t2 => callX (fun n => spec_l5State.f n t2.1 t2.2) fun t3 => brA (decide (((l0.length : Nat) : Int) > (0 : Int))) (brA (decide ((0 : Int) < ((l0.length : Nat) : Int))) (brA (decide ((Int.tmod (rd l0 (0 : Int)) (2 : Int)) = (1 : Int))) (k (.tup [.agg [.int .i64 t1.1, .own 0 0, .own 1 0], .agg [.int .i64 (wrap64 (t3.1 + (1 : Int))), .own 2 0, .own 3 0]]) ⟨[], [some ⟨37, t1.2.1, 0⟩, some ⟨84, t1.2.2.1, 0⟩, some ⟨37, t3.2.1, 0⟩, some ⟨84, t3.2.2.1, 0⟩]⟩) (k (.tup [.agg [.int .i64 t1.1, .own 0 0, .own 1 0], .agg [.int .i64 t3.1, .own 2 0, .own 3 0]]) ⟨[], [some ⟨37, t1.2.1, 0⟩, some ⟨84, t1.2.2.1, 0⟩, some ⟨37, t3.2.1, 0⟩, some ⟨84, t3.2.2.1, 0⟩]⟩)) (none)) (k (.tup [.agg [.int .i64 t1.1, .own 0 0, .own 1 0], .agg [.int .i64 t3.1, .own 2 0, .own 3 0]]) ⟨[], [some ⟨37, t1.2.1, 0⟩, some ⟨84, t1.2.2.1, 0⟩, some ⟨37, t3.2.1, 0⟩, some ⟨84, t3.2.2.1, 0⟩]⟩) : Option Unit) := by kernel_rfl
theorem okc_56 (args : List (AV tau)) (m : Mem tau) (κ : AV tau → Mem tau → Option Unit) (hh : c_56 args m κ = some ()) : ∃ av m1, κ av m1 = some () ∧ ToldA Try.prog TT (pnT 56) 56 args m av m1 := by
 obtain ⟨bx_, rw_⟩ := m
 unfold c_56 at hh
 simp only at hh
 split at hh
 case h_2 => cases hh
 rename_i b0
 obtain ⟨l0, hx0, hh0⟩ := bO_some hh
 have ex0 := asSl_some hx0
 subst ex0
 obtain ⟨N, t, h, hκ⟩ := callX_some hh0
 refine ⟨_, _, hκ, told_of_run pq okC_56 (fun _ _ _ => drawA_ok pq okC_56 hmix) (E := E_56) (fn := Try.f56) (body := B_56) (by kernel_rfl) (by kernel_rfl) (by kernel_rfl) (by rfl) (by exact Nat.le_of_ble_eq_true rfl) (fun k hk => ?_)⟩
 refine (w_56 l0 k).trans ?_
 replace h : spec_DrawCertSame.f N l0 = some t := h
 unfold spec_DrawCertSame.f at h
 refine call_h 0 h (fun t0 e8 h => ?_)
 refine call_h N h (fun t1 e9 h => ?_)
 refine call_h 0 h (fun t2 e10 h => ?_)
 refine call_h N h (fun t3 e11 h => ?_)
 refine br_eti h rfl (fun c12 h => ?_) (fun c12 h => ?_)
 ·cases h; exact hk
 refine br_g h rfl (fun c13 h => ?_)
 refine br_eti h rfl (fun c14 h => ?_) (fun c14 h => ?_)
 ·cases h; exact hk
 cases h; exact hk
noncomputable def C_10 : Ctr tau Unit := ctrS 56 c_56 C_56
noncomputable def D_10 : Drw tau := drawA E_10 C_10
theorem okC_10 : CtrOk Try.prog TT pnT C_10 := ctrS_ok okC_56 okc_56
theorem mC_10 : CtrMono C_10 := ctrS_mono mC_56 mc_56
theorem mD_10 : DrMono D_10 := drawA_mono mC_10
noncomputable def B_10 : Code := Try.f10.body.getD .skip
theorem mc_10 (args : List (AV tau)) (m : Mem tau) (k k' : AV tau → Mem tau → Option Unit) (hk : ∀ av m, k av m = some () → k' av m = some ()) (h : c_10 args m k = some ()) : c_10 args m k' = some () := by
 unfold c_10 at h ⊢
 split at h
 · repeat' first | exact callX_mono (fun _ h => hk _ _ h) h | refine bO_mono (fun _ h => ?_) h
 · cases h
theorem w_10 (l0 : List Int) (k : AV tau → Mem tau → Option Unit) : fnA E_10 C_10 D_10 Try.f10 B_10 [.sl 5 l0] ⟨[], []⟩ k = (brA (decide (((l0.length : Nat) : Int) > (1048576 : Int))) (k (.bool true) ⟨[], []⟩) (callX (fun n => spec_DrawCertLike.f n l0) fun t0 => callX (fun n => spec_DrawCertEntry.f n l0) fun t1 => callX (fun n => spec_DrawCertSame.f n l0) fun t2 => callX (fun n => impl_CertLike.f n t0.1 t0.2.1 t0.2.2.1 t0.2.2.2.1 t0.2.2.2.2.1 t0.2.2.2.2.2.1 t0.2.2.2.2.2.2.1 t0.2.2.2.2.2.2.2.1 t0.2.2.2.2.2.2.2.2.1 t0.2.2.2.2.2.2.2.2.2.1 t0.2.2.2.2.2.2.2.2.2.2.1 t0.2.2.2.2.2.2.2.2.2.2.2.1 t0.2.2.2.2.2.2.2.2.2.2.2.2.1 t0.2.2.2.2.2.2.2.2.2.2.2.2.2) fun t3 => callX (fun n => spec_CertLike.f n t0.1 t0.2.1 t0.2.2.1 t0.2.2.2.1 t0.2.2.2.2.1 t0.2.2.2.2.2.1 t0.2.2.2.2.2.2.1 t0.2.2.2.2.2.2.2.1 t0.2.2.2.2.2.2.2.2.1 t0.2.2.2.2.2.2.2.2.2.1 t0.2.2.2.2.2.2.2.2.2.2.1 t0.2.2.2.2.2.2.2.2.2.2.2.1 t0.2.2.2.2.2.2.2.2.2.2.2.2.1 t0.2.2.2.2.2.2.2.2.2.2.2.2.2) fun t4 => brA (!(t3 == t4)) (k (.bool false) ⟨[], []⟩) (callX (fun n => impl_CertLike.f n t0.1 t0.2.1 t0.2.2.1 t0.2.2.2.1 t0.2.2.2.2.1 t0.2.2.2.2.2.1 t0.2.2.2.2.2.2.1 t0.1 t0.2.1 t0.2.2.1 t0.2.2.2.1 t0.2.2.2.2.1 t0.2.2.2.2.2.1 t0.2.2.2.2.2.2.1) fun t5 => brA (!t5) (k (.bool false) ⟨[], []⟩) (callX (fun n => impl_CertEntry.f n t1.1 t1.2.1 t1.2.2.1 t1.2.2.2.1 t1.2.2.2.2.1 t1.2.2.2.2.2.1 t1.2.2.2.2.2.2) fun t6 => callX (fun n => spec_CertEntry.f n t1.1 t1.2.1 t1.2.2.1 t1.2.2.2.1 t1.2.2.2.2.1 t1.2.2.2.2.2.1 t1.2.2.2.2.2.2) fun t7 => brA (!(t6 == t7)) (k (.bool false) ⟨[], []⟩) (callX (fun n => impl_CertSame.f n t2.1 t2.2.1 t2.2.2.1 t2.2.2.2.1 t2.2.2.2.2.1 t2.2.2.2.2.2) fun t8 => callX (fun n => spec_CertSame.f n t2.1 t2.2.1 t2.2.2.1 t2.2.2.2.1 t2.2.2.2.2.1 t2.2.2.2.2.2) fun t9 => brA (!(t8 == t9)) (k (.bool false) ⟨[], []⟩) (callX (fun n => impl_CertSame.f n t2.1 t2.2.1 t2.2.2.1 t2.1 t2.2.1 t2.2.2.1) fun t10 => brA (!t10) (k (.bool false) ⟨[], []⟩) (callX (fun n => impl_CertOpen.f ) fun t11 => callX (fun n => impl_CertEntry.f n true (0 : Int) (0 : Int) ([] : List S39) ([] : List S82) (0 : Int) (0 : Int)) fun t12 => brA t12 (callX (fun n => impl_CertEntry.f n false (0 : Int) (0 : Int) ([] : List S39) ([] : List S82) (0 : Int) (0 : Int)) fun t13 => brA (!t13) (callX (fun n => impl_CertOk.f n t11.1 t11.2.1 t11.2.2) fun t14 => brA t14 (brA (decide (t11.1 = (0 : Int))) (callX (fun n => impl_CertFold.f n ([] : List S77)) fun t15 => callX (fun n => impl_CertSame.f n t11.1 t11.2.1 t11.2.2 t15.1 t15.2.1 t15.2.2) fun t16 => k (.bool t16) ⟨[], []⟩) (k (.bool false) ⟨[], []⟩)) (k (.bool false) ⟨[], []⟩)) (k (.bool false) ⟨[], []⟩)) (k (.bool false) ⟨[], []⟩))))))) : Option Unit) := by kernel_rfl
theorem okc_10 (args : List (AV tau)) (m : Mem tau) (κ : AV tau → Mem tau → Option Unit) (hh : c_10 args m κ = some ()) : ∃ av m1, κ av m1 = some () ∧ ToldA Try.prog TT (pnT 10) 10 args m av m1 := by
 obtain ⟨bx_, rw_⟩ := m
 unfold c_10 at hh
 simp only at hh
 split at hh
 case h_2 => cases hh
 rename_i b0
 obtain ⟨l0, hx0, hh0⟩ := bO_some hh
 have ex0 := asSl_some hx0
 subst ex0
 obtain ⟨N, t, h, hκ⟩ := callX_some hh0
 refine ⟨_, _, hκ, told_of_run pq okC_10 (fun _ _ _ => drawA_ok pq okC_10 hmix) (E := E_10) (fn := Try.f10) (body := B_10) (by kernel_rfl) (by kernel_rfl) (by kernel_rfl) (by rfl) (by exact Nat.le_of_ble_eq_true rfl) (fun k hk => ?_)⟩
 refine (w_10 l0 k).trans ?_
 replace h : laws_FnCertLike.f N l0 = some t := h
 unfold laws_FnCertLike.f at h
 refine br_ite h rfl (fun c28 h => ?_) (fun c28 h => ?_)
 ·cases h; exact hk
 refine call_h N h (fun t0 e29 h => ?_)
 refine call_h N h (fun t1 e30 h => ?_)
 refine call_h N h (fun t2 e31 h => ?_)
 refine call_h N h (fun t3 e32 h => ?_)
 refine call_h N h (fun t4 e33 h => ?_)
 refine br_etn h (by first | rfl | exact dect | exact (congrArg not dect) | (simp; done) | (simp [beqI]; done) | (simp; omega)) (fun c34 h => ?_) (fun c34 h => ?_)
 ·cases h; exact hk
 refine call_h N h (fun t5 e35 h => ?_)
 refine br_etn h (congrArg not dect) (fun c36 h => ?_) (fun c36 h => ?_)
 ·cases h; exact hk
 refine call_h N h (fun t6 e37 h => ?_)
 refine call_h N h (fun t7 e38 h => ?_)
 refine br_etn h (by first | rfl | exact dect | exact (congrArg not dect) | (simp; done) | (simp [beqI]; done) | (simp; omega)) (fun c39 h => ?_) (fun c39 h => ?_)
 ·cases h; exact hk
 refine call_h N h (fun t8 e40 h => ?_)
 refine call_h N h (fun t9 e41 h => ?_)
 refine br_etn h (by first | rfl | exact dect | exact (congrArg not dect) | (simp; done) | (simp [beqI]; done) | (simp; omega)) (fun c42 h => ?_) (fun c42 h => ?_)
 ·cases h; exact hk
 refine call_h N h (fun t10 e43 h => ?_)
 refine br_etn h (congrArg not dect) (fun c44 h => ?_) (fun c44 h => ?_)
 ·cases h; exact hk
 refine call_h 0 h (fun t11 e45 h => ?_)
 refine call_h N h (fun t12 e46 h => ?_)
 refine br_eti h dect (fun c47 h => ?_) (fun c47 h => ?_)
 ·cases h; exact hk
 refine call_h N h (fun t13 e48 h => ?_)
 refine br_itn h (congrArg not dect) (fun c49 h => ?_) (fun c49 h => ?_)
 ·cases h; exact hk
 refine call_h N h (fun t14 e50 h => ?_)
 refine br_eti h dect (fun c51 h => ?_) (fun c51 h => ?_)
 ·cases h; exact hk
 refine br_eti h rfl (fun c52 h => ?_) (fun c52 h => ?_)
 ·cases h; exact hk
 refine call_h N h (fun t15 e53 h => ?_)
 refine call_h N h (fun t16 e54 h => ?_)
 cases h; exact hk
end Go.Proofs.Ytkkmhlfpombgfaa.PFnCertLike
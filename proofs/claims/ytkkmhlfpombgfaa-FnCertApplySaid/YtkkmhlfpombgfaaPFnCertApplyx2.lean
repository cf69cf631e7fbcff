/- The machine's texts of FnCertApply (links). Conditions: none. -/
import Derived.Test.YtkkmhlfpombgfaaPFnCertApplyx1
set_option linter.unusedVariables false
set_option linter.unusedSimpArgs false
set_option maxRecDepth 100000
set_option maxHeartbeats 4000000
namespace Go.Proofs.Ytkkmhlfpombgfaa.PFnCertApply
open Go.RowKit Go.Proofs.YtkkmhlfpombgfaaW.PrintWords Go.Proofs.YtkkmhlfpombgfaaW.PrintLast Go.Proofs.YtkkmhlfpombgfaaW.PrintMore
open Go Go.Proofs Am
theorem w_48 (l0 : List Int) (k : AV tau → Mem tau → Option Unit) : fnA E_48 C_48 D_48 Try.f48 B_48 [.sl 5 l0] ⟨[], []⟩ k = (callX (fun n => spec_l15Open.f l0) fun t0 => callX (fun n => spec_l5State.f n t0.1 t0.2) fun t1 => callX (fun n => spec_BoxOk.f n t1.2.1) fun t2 => brA (!t2) (callX (fun n => spec_l1Boxes.f n t0.1 t1.2.2.2) fun t3 => callX (fun n => spec_l5Any.f n t0.1 t3.2 t3.1) fun t4 => callX (fun n => spec_l15Rd_pick.f n t0.1 t4.2.2.2.2.2.2.2 (2 : Int)) fun t5 => brA (decide (t5.1 = (0 : Int))) (brA (!t4.1) (brA (decide (((t1.2.2.1.length : Nat) : Int) > (0 : Int))) (callX (fun n => spec_l15Rd_pick.f n t0.1 t5.2 (5 : Int)) fun t6 => brA (decide (t6.1 = (0 : Int))) (brA (!t4.1) (brA (decide ((0 : Int) < ((t1.2.2.1.length : Nat) : Int))) (k (.tup [.agg [.int .i64 t1.1, .own 0 0, .own 1 0], .agg [.bool t4.1, .int .i64 (((rd_T84 t1.2.2.1 (0 : Int)).f0).f0), .int .i64 (((rd_T84 t1.2.2.1 (0 : Int)).f0).f1), .own 2 0, .own 3 0, .int .i64 t4.2.2.2.2.2.1, .int .i64 t4.2.2.2.2.2.2.1]]) ⟨[], [some ⟨37, t1.2.1, 0⟩, some ⟨84, t1.2.2.1, 0⟩, some ⟨39, t4.2.2.2.1, 0⟩, some ⟨82, t4.2.2.2.2.1, 0⟩]⟩) (none)) (k (.tup [.agg [.int .i64 t1.1, .own 0 0, .own 1 0], .agg [.bool t4.1, .int .i64 t4.2.1, .int .i64 (50 : Int), .own 2 0, .own 3 0, .int .i64 t4.2.2.2.2.2.1, .int .i64 t4.2.2.2.2.2.2.1]]) ⟨[], [some ⟨37, t1.2.1, 0⟩, some ⟨84, t1.2.2.1, 0⟩, some ⟨39, t4.2.2.2.1, 0⟩, some ⟨82, t4.2.2.2.2.1, 0⟩]⟩)) (k (.tup [.agg [.int .i64 t1.1, .own 0 0, .own 1 0], .agg [.bool t4.1, .int .i64 t4.2.1, .int .i64 (50 : Int), .own 2 0, .own 3 0, .int .i64 t4.2.2.2.2.2.1, .int .i64 t4.2.2.2.2.2.2.1]]) ⟨[], [some ⟨37, t1.2.1, 0⟩, some ⟨84, t1.2.2.1, 0⟩, some ⟨39, t4.2.2.2.1, 0⟩, some ⟨82, t4.2.2.2.2.1, 0⟩]⟩)) (k (.tup [.agg [.int .i64 t1.1, .own 0 0, .own 1 0], .agg [.bool t4.1, .int .i64 t4.2.1, .int .i64 (50 : Int), .own 2 0, .own 3 0, .int .i64 t4.2.2.2.2.2.1, .int .i64 t4.2.2.2.2.2.2.1]]) ⟨[], [some ⟨37, t1.2.1, 0⟩, some ⟨84, t1.2.2.1, 0⟩, some ⟨39, t4.2.2.2.1, 0⟩, some ⟨82, t4.2.2.2.2.1, 0⟩]⟩)) (brA (decide (((t1.2.2.1.length : Nat) : Int) > (0 : Int))) (callX (fun n => spec_l15Rd_pick.f n t0.1 t5.2 (5 : Int)) fun t7 => brA (decide (t7.1 = (0 : Int))) (brA (!t4.1) (brA (decide ((0 : Int) < ((t1.2.2.1.length : Nat) : Int))) (k (.tup [.agg [.int .i64 t1.1, .own 0 0, .own 1 0], .agg [.bool t4.1, .int .i64 (((rd_T84 t1.2.2.1 (0 : Int)).f0).f0), .int .i64 (((rd_T84 t1.2.2.1 (0 : Int)).f0).f1), .own 2 0, .own 3 0, .int .i64 t4.2.2.2.2.2.1, .int .i64 t4.2.2.2.2.2.2.1]]) ⟨[], [some ⟨37, t1.2.1, 0⟩, some ⟨84, t1.2.2.1, 0⟩, some ⟨39, t4.2.2.2.1, 0⟩, some ⟨82, t4.2.2.2.2.1, 0⟩]⟩) (none)) (k (.tup [.agg [.int .i64 t1.1, .own 0 0, .own 1 0], .agg [.bool t4.1, .int .i64 t4.2.1, .int .i64 t4.2.2.1, .own 2 0, .own 3 0, .int .i64 t4.2.2.2.2.2.1, .int .i64 t4.2.2.2.2.2.2.1]]) ⟨[], [some ⟨37, t1.2.1, 0⟩, some ⟨84, t1.2.2.1, 0⟩, some ⟨39, t4.2.2.2.1, 0⟩, some ⟨82, t4.2.2.2.2.1, 0⟩]⟩)) (k (.tup [.agg [.int .i64 t1.1, .own 0 0, .own 1 0], .agg [.bool t4.1, .int .i64 t4.2.1, .int .i64 t4.2.2.1, .own 2 0, .own 3 0, .int .i64 t4.2.2.2.2.2.1, .int .i64 t4.2.2.2.2.2.2.1]]) ⟨[], [some ⟨37, t1.2.1, 0⟩, some ⟨84, t1.2.2.1, 0⟩, some ⟨39, t4.2.2.2.1, 0⟩, some ⟨82, t4.2.2.2.2.1, 0⟩]⟩)) (k (.tup [.agg [.int .i64 t1.1, .own 0 0, .own 1 0], .agg [.bool t4.1, .int .i64 t4.2.1, .int .i64 t4.2.2.1, .own 2 0, .own 3 0, .int .i64 t4.2.2.2.2.2.1, .int .i64 t4.2.2.2.2.2.2.1]]) ⟨[], [some ⟨37, t1.2.1, 0⟩, some ⟨84, t1.2.2.1, 0⟩, some ⟨39, t4.2.2.2.1, 0⟩, some ⟨82, t4.2.2.2.2.1, 0⟩]⟩))) (brA (decide (((t1.2.2.1.length : Nat) : Int) > (0 : Int))) (callX (fun n => spec_l15Rd_pick.f n t0.1 t5.2 (5 : Int)) fun t8 => brA (decide (t8.1 = (0 : Int))) (brA (!t4.1) (brA (decide ((0 : Int) < ((t1.2.2.1.length : Nat) : Int))) (k (.tup [.agg [.int .i64 t1.1, .own 0 0, .own 1 0], .agg [.bool t4.1, .int .i64 (((rd_T84 t1.2.2.1 (0 : Int)).f0).f0), .int .i64 (((rd_T84 t1.2.2.1 (0 : Int)).f0).f1), .own 2 0, .own 3 0, .int .i64 t4.2.2.2.2.2.1, .int .i64 t4.2.2.2.2.2.2.1]]) ⟨[], [some ⟨37, t1.2.1, 0⟩, some ⟨84, t1.2.2.1, 0⟩, some ⟨39, t4.2.2.2.1, 0⟩, some ⟨82, t4.2.2.2.2.1, 0⟩]⟩) (none)) (k (.tup [.agg [.int .i64 t1.1, .own 0 0, .own 1 0], .agg [.bool t4.1, .int .i64 t4.2.1, .int .i64 t4.2.2.1, .own 2 0, .own 3 0, .int .i64 t4.2.2.2.2.2.1, .int .i64 t4.2.2.2.2.2.2.1]]) ⟨[], [some ⟨37, t1.2.1, 0⟩, some ⟨84, t1.2.2.1, 0⟩, some ⟨39, t4.2.2.2.1, 0⟩, some ⟨82, t4.2.2.2.2.1, 0⟩]⟩)) (k (.tup [.agg [.int .i64 t1.1, .own 0 0, .own 1 0], .agg [.bool t4.1, .int .i64 t4.2.1, .int .i64 t4.2.2.1, .own 2 0, .own 3 0, .int .i64 t4.2.2.2.2.2.1, .int .i64 t4.2.2.2.2.2.2.1]]) ⟨[], [some ⟨37, t1.2.1, 0⟩, some ⟨84, t1.2.2.1, 0⟩, some ⟨39, t4.2.2.2.1, 0⟩, some ⟨82, t4.2.2.2.2.1, 0⟩]⟩)) (k (.tup [.agg [.int .i64 t1.1, .own 0 0, .own 1 0], .agg [.bool t4.1, .int .i64 t4.2.1, .int .i64 t4.2.2.1, .own 2 0, .own 3 0, .int .i64 t4.2.2.2.2.2.1, .int .i64 t4.2.2.2.2.2.2.1]]) ⟨[], [some ⟨37, t1.2.1, 0⟩, some ⟨84, t1.2.2.1, 0⟩, some ⟨39, t4.2.2.2.1, 0⟩, some ⟨82, t4.2.2.2.2.1, 0⟩]⟩))) (callX (fun n => spec_l15Rd_pick.f n t0.1 t1.2.2.2 (4 : Int)) fun t9 => brA (decide (t9.1 = (0 : Int))) (callX (fun n => spec_l1Boxes.f n t0.1 t9.2) fun t10 => callX (fun n => spec_l5Any.f n t0.1 t10.2 t10.1) fun t11 => callX (fun n => spec_l15Rd_pick.f n t0.1 t11.2.2.2.2.2.2.2 (2 : Int)) fun t12 => brA (decide (t12.1 = (0 : Int))) (brA (!t11.1) (brA (decide (((t1.2.2.1.length : Nat) : Int) > (0 : Int))) (callX (fun n => spec_l15Rd_pick.f n t0.1 t12.2 (5 : Int)) fun t13 => brA (decide (t13.1 = (0 : Int))) (brA (!t11.1) (brA (decide ((0 : Int) < ((t1.2.2.1.length : Nat) : Int))) (k (.tup [.agg [.int .i64 t1.1, .own 0 0, .own 1 0], .agg [.bool t11.1, .int .i64 (((rd_T84 t1.2.2.1 (0 : Int)).f0).f0), .int .i64 (((rd_T84 t1.2.2.1 (0 : Int)).f0).f1), .own 2 0, .own 3 0, .int .i64 t11.2.2.2.2.2.1, .int .i64 t11.2.2.2.2.2.2.1]]) ⟨[], [some ⟨37, t1.2.1, 0⟩, some ⟨84, t1.2.2.1, 0⟩, some ⟨39, t11.2.2.2.1, 0⟩, some ⟨82, t11.2.2.2.2.1, 0⟩]⟩) (none)) (k (.tup [.agg [.int .i64 t1.1, .own 0 0, .own 1 0], .agg [.bool t11.1, .int .i64 t11.2.1, .int .i64 (50 : Int), .own 2 0, .own 3 0, .int .i64 t11.2.2.2.2.2.1, .int .i64 t11.2.2.2.2.2.2.1]]) ⟨[], [some ⟨37, t1.2.1, 0⟩, some ⟨84, t1.2.2.1, 0⟩, some ⟨39, t11.2.2.2.1, 0⟩, some ⟨82, t11.2.2.2.2.1, 0⟩]⟩)) (k (.tup [.agg [.int .i64 t1.1, .own 0 0, .own 1 0], .agg [.bool t11.1, .int .i64 t11.2.1, .int .i64 (50 : Int), .own 2 0, .own 3 0, .int .i64 t11.2.2.2.2.2.1, .int .i64 t11.2.2.2.2.2.2.1]]) ⟨[], [some ⟨37, t1.2.1, 0⟩, some ⟨84, t1.2.2.1, 0⟩, some ⟨39, t11.2.2.2.1, 0⟩, some ⟨82, t11.2.2.2.2.1, 0⟩]⟩)) (k (.tup [.agg [.int .i64 t1.1, .own 0 0, .own 1 0], .agg [.bool t11.1, .int .i64 t11.2.1, .int .i64 (50 : Int), .own 2 0, .own 3 0, .int .i64 t11.2.2.2.2.2.1, .int .i64 t11.2.2.2.2.2.2.1]]) ⟨[], [some ⟨37, t1.2.1, 0⟩, some ⟨84, t1.2.2.1, 0⟩, some ⟨39, t11.2.2.2.1, 0⟩, some ⟨82, t11.2.2.2.2.1, 0⟩]⟩)) (brA (decide (((t1.2.2.1.length : Nat) : Int) > (0 : Int))) (callX (fun n => spec_l15Rd_pick.f n t0.1 t12.2 (5 : Int)) fun t14 => brA (decide (t14.1 = (0 : Int))) (brA (!t11.1) (brA (decide ((0 : Int) < ((t1.2.2.1.length : Nat) : Int))) (k (.tup [.agg [.int .i64 t1.1, .own 0 0, .own 1 0], .agg [.bool t11.1, .int .i64 (((rd_T84 t1.2.2.1 (0 : Int)).f0).f0), .int .i64 (((rd_T84 t1.2.2.1 (0 : Int)).f0).f1), .own 2 0, .own 3 0, .int .i64 t11.2.2.2.2.2.1, .int .i64 t11.2.2.2.2.2.2.1]]) ⟨[], [some ⟨37, t1.2.1, 0⟩, some ⟨84, t1.2.2.1, 0⟩, some ⟨39, t11.2.2.2.1, 0⟩, some ⟨82, t11.2.2.2.2.1, 0⟩]⟩) (none)) (k (.tup [.agg [.int .i64 t1.1, .own 0 0, .own 1 0], .agg [.bool t11.1, .int .i64 t11.2.1, .int .i64 t11.2.2.1, .own 2 0, .own 3 0, .int .i64 t11.2.2.2.2.2.1, .int .i64 t11.2.2.2.2.2.2.1]]) ⟨[], [some ⟨37, t1.2.1, 0⟩, some ⟨84, t1.2.2.1, 0⟩, some ⟨39, t11.2.2.2.1, 0⟩, some ⟨82, t11.2.2.2.2.1, 0⟩]⟩)) (k (.tup [.agg [.int .i64 t1.1, .own 0 0, .own 1 0], .agg [.bool t11.1, .int .i64 t11.2.1, .int .i64 t11.2.2.1, .own 2 0, .own 3 0, .int .i64 t11.2.2.2.2.2.1, .int .i64 t11.2.2.2.2.2.2.1]]) ⟨[], [some ⟨37, t1.2.1, 0⟩, some ⟨84, t1.2.2.1, 0⟩, some ⟨39, t11.2.2.2.1, 0⟩, some ⟨82, t11.2.2.2.2.1, 0⟩]⟩)) (k (.tup [.agg [.int .i64 t1.1, .own 0 0, .own 1 0], .agg [.bool t11.1, .int .i64 t11.2.1, .int .i64 t11.2.2.1, .own 2 0, .own 3 0, .int .i64 t11.2.2.2.2.2.1, .int .i64 t11.2.2.2.2.2.2.1]]) ⟨[], [some ⟨37, t1.2.1, 0⟩, some ⟨84, t1.2.2.1, 0⟩, some ⟨39, t11.2.2.2.1, 0⟩, some ⟨82, t11.2.2.2.2.1, 0⟩]⟩))) (brA (decide (((t1.2.2.1.length : Nat) : Int) > (0 : Int))) (callX (fun n => spec_l15Rd_pick.f n t0.1 t12.2 (5 : Int)) fun t15 => brA (decide (t15.1 = (0 : Int))) (brA (!t11.1) (brA (decide ((0 : Int) < ((t1.2.2.1.length : Nat) : Int))) (k (.tup [.agg [.int .i64 t1.1, .own 0 0, .own 1 0], .agg [.bool t11.1, .int .i64 (((rd_T84 t1.2.2.1 (0 : Int)).f0).f0), .int .i64 (((rd_T84 t1.2.2.1 (0 : Int)).f0).f1), .own 2 0, .own 3 0, .int .i64 t11.2.2.2.2.2.1, .int .i64 t11.2.2.2.2.2.2.1]]) ⟨[], [some ⟨37, t1.2.1, 0⟩, some ⟨84, t1.2.2.1, 0⟩, some ⟨39, t11.2.2.2.1, 0⟩, some ⟨82, t11.2.2.2.2.1, 0⟩]⟩) (none)) (k (.tup [.agg [.int .i64 t1.1, .own 0 0, .own 1 0], .agg [.bool t11.1, .int .i64 t11.2.1, .int .i64 t11.2.2.1, .own 2 0, .own 3 0, .int .i64 t11.2.2.2.2.2.1, .int .i64 t11.2.2.2.2.2.2.1]]) ⟨[], [some ⟨37, t1.2.1, 0⟩, some ⟨84, t1.2.2.1, 0⟩, some ⟨39, t11.2.2.2.1, 0⟩, some ⟨82, t11.2.2.2.2.1, 0⟩]⟩)) (k (.tup [.agg [.int .i64 t1.1, .own 0 0, .own 1 0], .agg [.bool t11.1, .int .i64 t11.2.1, .int .i64 t11.2.2.1, .own 2 0, .own 3 0, .int .i64 t11.2.2.2.2.2.1, .int .i64 t11.2.2.2.2.2.2.1]]) ⟨[], [some ⟨37, t1.2.1, 0⟩, some ⟨84, t1.2.2.1, 0⟩, some ⟨39, t11.2.2.2.1, 0⟩, some ⟨82, t11.2.2.2.2.1, 0⟩]⟩)) (k (.tup [.agg [.int .i64 t1.1, .own 0 0, .own 1 0], .agg [.bool t11.1, .int .i64 t11.2.1, .int .i64 t11.2.2.1, .own 2 0, .own 3 0, .int .i64 t11.2.2.2.2.2.1, .int .i64 t11.2.2.2.2.2.2.1]]) ⟨[], [some ⟨37, t1.2.1, 0⟩, some ⟨84, t1.2.2.1, 0⟩, some ⟨39, t11.2.2.2.1, 0⟩, some ⟨82, t11.2.2.2.2.1, 0⟩]⟩))) (callX (fun n => spec_l5Any.f n t0.1 t9.2 t1.2.1) fun t16 => callX (fun n => spec_l15Rd_pick.f n t0.1 t16.2.2.2.2.2.2.2 (2 : Int)) fun t17 => brA (decide (t17.1 = (0 : Int))) (brA (!t16.1) (brA (decide (((t1.2.2.1.length : Nat) : Int) > (0 : Int))) (callX (fun n => spec_l15Rd_pick.f n t0.1 t17.2 (5 : Int)) fun t18 => brA (decide (t18.1 = (0 : Int))) (brA (!t16.1) (brA (decide ((0 : Int) < ((t1.2.2.1.length : Nat) : Int))) (k (.tup [.agg [.int .i64 t1.1, .own 0 0, .own 1 0], .agg [.bool t16.1, .int .i64 (((rd_T84 t1.2.2.1 (0 : Int)).f0).f0), .int .i64 (((rd_T84 t1.2.2.1 (0 : Int)).f0).f1), .own 2 0, .own 3 0, .int .i64 t16.2.2.2.2.2.1, .int .i64 t16.2.2.2.2.2.2.1]]) ⟨[], [some ⟨37, t1.2.1, 0⟩, some ⟨84, t1.2.2.1, 0⟩, some ⟨39, t16.2.2.2.1, 0⟩, some ⟨82, t16.2.2.2.2.1, 0⟩]⟩) (none)) (k (.tup [.agg [.int .i64 t1.1, .own 0 0, .own 1 0], .agg [.bool t16.1, .int .i64 t16.2.1, .int .i64 (50 : Int), .own 2 0, .own 3 0, .int .i64 t16.2.2.2.2.2.1, .int .i64 t16.2.2.2.2.2.2.1]]) ⟨[], [some ⟨37, t1.2.1, 0⟩, some ⟨84, t1.2.2.1, 0⟩, some ⟨39, t16.2.2.2.1, 0⟩, some ⟨82, t16.2.2.2.2.1, 0⟩]⟩)) (k (.tup [.agg [.int .i64 t1.1, .own 0 0, .own 1 0], .agg [.bool t16.1, .int .i64 t16.2.1, .int .i64 (50 : Int), .own 2 0, .own 3 0, .int .i64 t16.2.2.2.2.2.1, .int .i64 t16.2.2.2.2.2.2.1]]) ⟨[], [some ⟨37, t1.2.1, 0⟩, some ⟨84, t1.2.2.1, 0⟩, some ⟨39, t16.2.2.2.1, 0⟩, some ⟨82, t16.2.2.2.2.1, 0⟩]⟩)) (k (.tup [.agg [.int .i64 t1.1, .own 0 0, .own 1 0], .agg [.bool t16.1, .int .i64 t16.2.1, .int .i64 (50 : Int), .own 2 0, .own 3 0, .int .i64 t16.2.2.2.2.2.1, .int .i64 t16.2.2.2.2.2.2.1]]) ⟨[], [some ⟨37, t1.2.1, 0⟩, some ⟨84, t1.2.2.1, 0⟩, some ⟨39, t16.2.2.2.1, 0⟩, some ⟨82, t16.2.2.2.2.1, 0⟩]⟩)) (brA (decide (((t1.2.2.1.length : Nat) : Int) > (0 : Int))) (callX (fun n => spec_l15Rd_pick.f n t0.1 t17.2 (5 : Int)) fun t19 => brA (decide (t19.1 = (0 : Int))) (brA (!t16.1) (brA (decide ((0 : Int) < ((t1.2.2.1.length : Nat) : Int))) (k (.tup [.agg [.int .i64 t1.1, .own 0 0, .own 1 0], .agg [.bool t16.1, .int .i64 (((rd_T84 t1.2.2.1 (0 : Int)).f0).f0), .int .i64 (((rd_T84 t1.2.2.1 (0 : Int)).f0).f1), .own 2 0, .own 3 0, .int .i64 t16.2.2.2.2.2.1, .int .i64 t16.2.2.2.2.2.2.1]]) ⟨[], [some ⟨37, t1.2.1, 0⟩, some ⟨84, t1.2.2.1, 0⟩, some ⟨39, t16.2.2.2.1, 0⟩, some ⟨82, t16.2.2.2.2.1, 0⟩]⟩) (none)) (k (.tup [.agg [.int .i64 t1.1, .own 0 0, .own 1 0], .agg [.bool t16.1, .int .i64 t16.2.1, .int .i64 t16.2.2.1, .own 2 0, .own 3 0, .int .i64 t16.2.2.2.2.2.1, .int .i64 t16.2.2.2.2.2.2.1]]) ⟨[], [some ⟨37, t1.2.1, 0⟩, some ⟨84, t1.2.2.1, 0⟩, some ⟨39, t16.2.2.2.1, 0⟩, some ⟨82, t16.2.2.2.2.1, 0⟩]⟩)) (k (.tup [.agg [.int .i64 t1.1, .own 0 0, .own 1 0], .agg [.bool t16.1, .int .i64 t16.2.1, .int .i64 t16.2.2.1, .own 2 0, .own 3 0, .int .i64 t16.2.2.2.2.2.1, .int .i64 t16.2.2.2.2.2.2.1]]) ⟨[], [some ⟨37, t1.2.1, 0⟩, some ⟨84, t1.2.2.1, 0⟩, some ⟨39, t16.2.2.2.1, 0⟩, some ⟨82, t16.2.2.2.2.1, 0⟩]⟩)) (k (.tup [.agg [.int .i64 t1.1, .own 0 0, .own 1 0], .agg [.bool t16.1, .int .i64 t16.2.1, .int .i64 t16.2.2.1, .own 2 0, .own 3 0, .int .i64 t16.2.2.2.2.2.1, .int .i64 t16.2.2.2.2.2.2.1]]) ⟨[], [some ⟨37, t1.2.1, 0⟩, some ⟨84, t1.2.2.1, 0⟩, some ⟨39, t16.2.2.2.1, 0⟩, some ⟨82, t16.2.2.2.2.1, 0⟩]⟩))) (brA (decide (((t1.2.2.1.length : Nat) : Int) > (0 : Int))) (callX (fun n => spec_l15Rd_pick.f n t0.1 t17.2 (5 : Int)) fun t20 => brA (decide (t20.1 = (0 : Int))) (brA (!t16.1) (brA (decide ((0 : Int) < ((t1.2.2.1.length : Nat) : Int))) (k (.tup [.agg [.int .i64 t1.1, .own 0 0, .own 1 0], .agg [.bool t16.1, .int .i64 (((rd_T84 t1.2.2.1 (0 : Int)).f0).f0), .int .i64 (((rd_T84 t1.2.2.1 (0 : Int)).f0).f1), .own 2 0, .own 3 0, .int .i64 t16.2.2.2.2.2.1, .int .i64 t16.2.2.2.2.2.2.1]]) ⟨[], [some ⟨37, t1.2.1, 0⟩, some ⟨84, t1.2.2.1, 0⟩, some ⟨39, t16.2.2.2.1, 0⟩, some ⟨82, t16.2.2.2.2.1, 0⟩]⟩) (none)) (k (.tup [.agg [.int .i64 t1.1, .own 0 0, .own 1 0], .agg [.bool t16.1, .int .i64 t16.2.1, .int .i64 t16.2.2.1, .own 2 0, .own 3 0, .int .i64 t16.2.2.2.2.2.1, .int .i64 t16.2.2.2.2.2.2.1]]) ⟨[], [some ⟨37, t1.2.1, 0⟩, some ⟨84, t1.2.2.1, 0⟩, some ⟨39, t16.2.2.2.1, 0⟩, some ⟨82, t16.2.2.2.2.1, 0⟩]⟩)) (k (.tup [.agg [.int .i64 t1.1, .own 0 0, .own 1 0], .agg [.bool t16.1, .int .i64 t16.2.1, .int .i64 t16.2.2.1, .own 2 0, .own 3 0, .int .i64 t16.2.2.2.2.2.1, .int .i64 t16.2.2.2.2.2.2.1]]) ⟨[], [some ⟨37, t1.2.1, 0⟩, some ⟨84, t1.2.2.1, 0⟩, some ⟨39, t16.2.2.2.1, 0⟩, some ⟨82, t16.2.2.2.2.1, 0⟩]⟩)) (k (.tup [.agg [.int .i64 t1.1, .own 0 0, .own 1 0], .agg [.bool t16.1, .int .i64 t16.2.1, .int .i64 t16.2.2.1, .own 2 0, .own 3 0, .int .i64 t16.2.2.2.2.2.1, .int .i64 t16.2.2.2.2.2.2.1]]) ⟨[], [some ⟨37, t1.2.1, 0⟩, some ⟨84, t1.2.2.1, 0⟩, some ⟨39, t16.2.2.2.1, 0⟩, some ⟨82, t16.2.2.2.2.1, 0⟩]⟩)))) : Option Unit) := by kernel_rfl
theorem okc_48 (args : List (AV tau)) (m : Mem tau) (κ : AV tau → Mem tau → Option Unit) (hh : c_48 args m κ = some ()) : ∃ av m1, κ av m1 = some () ∧ ToldA Try.prog TT (pnT 48) 48 args m av m1 := by
 obtain ⟨bx_, rw_⟩ := m
 unfold c_48 at hh
 simp only at hh
 split at hh
 case h_2 => cases hh
 rename_i b0
 obtain ⟨l0, hx0, hh0⟩ := bO_some hh
 have ex0 := asSl_some hx0
 subst ex0
 obtain ⟨N, t, h, hκ⟩ := callX_some hh0
 refine ⟨_, _, hκ, told_of_run pq okC_48 (fun _ _ _ => drawA_ok pq okC_48 hmix) (E := E_48) (fn := Try.f48) (body := B_48) (by kernel_rfl) (by kernel_rfl) (by kernel_rfl) (by rfl) (by exact Nat.le_of_ble_eq_true rfl) (fun k hk => ?_)⟩
 refine (w_48 l0 k).trans ?_
 replace h : spec_DrawCertApply.f N l0 = some t := h
 unfold spec_DrawCertApply.f at h
 refine call_h 0 h (fun t0 e66 h => ?_)
 refine call_h N h (fun t1 e67 h => ?_)
 refine call_h N h (fun t2 e68 h => ?_)
 refine br_etn h (congrArg not dect) (fun c69 h => ?_) (fun c69 h => ?_)
 ·rcases N with _ | N
  · cases h
  first | rw [spec_DrawCertApply.j0] at h | simp only [spec_DrawCertApply.j0] at h | (unfold spec_DrawCertApply.j0 at h; dsimp only at h)
  replace h := ite_t h (by first | assumption | omega | simp_all)
  refine call_h N h (fun t3 e70 h => ?_)
  rcases N with _ | N
  · cases h
  first | rw [spec_DrawCertApply.j1] at h | simp only [spec_DrawCertApply.j1] at h | (unfold spec_DrawCertApply.j1 at h; dsimp only at h)
  refine call_h N h (fun t4 e71 h => ?_)
  refine call_h N h (fun t5 e72 h => ?_)
  refine br_eti h rfl (fun c73 h => ?_) (fun c73 h => ?_)
  ·rcases N with _ | N
   · cases h
   first | rw [spec_DrawCertApply.j2] at h | simp only [spec_DrawCertApply.j2] at h | (unfold spec_DrawCertApply.j2 at h; dsimp only at h)
   replace h := ite_f h (by first | assumption | omega | simp_all)
   refine br_eti h rfl (fun c74 h => ?_) (fun c74 h => ?_)
   ·cases h; exact hk
   refine call_h N h (fun t8 e75 h => ?_)
   refine br_eti h rfl (fun c76 h => ?_) (fun c76 h => ?_)
   ·cases h; exact hk
   refine br_itn h (congrArg not dect) (fun c77 h => ?_) (fun c77 h => ?_)
   ·cases h; exact hk
   refine br_g h rfl (fun c78 h => ?_)
   cases h; exact hk
  rcases N with _ | N
  · cases h
  first | rw [spec_DrawCertApply.j2] at h | simp only [spec_DrawCertApply.j2] at h | (unfold spec_DrawCertApply.j2 at h; dsimp only at h)
  refine br_ite h dect (fun c79 h => ?_) (fun c79 h => ?_)
  ·refine br_eti h rfl (fun c80 h => ?_) (fun c80 h => ?_)
   ·cases h; exact hk
   refine call_h N h (fun t6 e81 h => ?_)
   refine br_eti h rfl (fun c82 h => ?_) (fun c82 h => ?_)
   ·cases h; exact hk
   refine br_itn h (congrArg not dect) (fun c83 h => ?_) (fun c83 h => ?_)
   ·cases h; exact hk
   refine br_g h rfl (fun c84 h => ?_)
   cases h; exact hk
  refine br_eti h rfl (fun c85 h => ?_) (fun c85 h => ?_)
  ·cases h; exact hk
  refine call_h N h (fun t7 e86 h => ?_)
  refine br_eti h rfl (fun c87 h => ?_) (fun c87 h => ?_)
  ·cases h; exact hk
  refine br_itn h (congrArg not dect) (fun c88 h => ?_) (fun c88 h => ?_)
  ·cases h; exact hk
  refine br_g h rfl (fun c89 h => ?_)
  cases h; exact hk
 refine call_h N h (fun t9 e90 h => ?_)
 rcases N with _ | N
 · cases h
 first | rw [spec_DrawCertApply.j0] at h | simp only [spec_DrawCertApply.j0] at h | (unfold spec_DrawCertApply.j0 at h; dsimp only at h)
 refine br_eti h (by first | rfl | exact dect | exact (congrArg not dect) | (simp; done) | (simp [beqI]; done) | (simp; omega)) (fun c91 h => ?_) (fun c91 h => ?_)
 ·rcases N with _ | N
  · cases h
  first | rw [spec_DrawCertApply.j1] at h | simp only [spec_DrawCertApply.j1] at h | (unfold spec_DrawCertApply.j1 at h; dsimp only at h)
  refine call_h N h (fun t16 e92 h => ?_)
  refine call_h N h (fun t17 e93 h => ?_)
  refine br_eti h rfl (fun c94 h => ?_) (fun c94 h => ?_)
  ·rcases N with _ | N
   · cases h
   first | rw [spec_DrawCertApply.j2] at h | simp only [spec_DrawCertApply.j2] at h | (unfold spec_DrawCertApply.j2 at h; dsimp only at h)
   replace h := ite_f h (by first | assumption | omega | simp_all)
   refine br_eti h rfl (fun c95 h => ?_) (fun c95 h => ?_)
   ·cases h; exact hk
   refine call_h N h (fun t20 e96 h => ?_)
   refine br_eti h rfl (fun c97 h => ?_) (fun c97 h => ?_)
   ·cases h; exact hk
   refine br_itn h (congrArg not dect) (fun c98 h => ?_) (fun c98 h => ?_)
   ·cases h; exact hk
   refine br_g h rfl (fun c99 h => ?_)
   cases h; exact hk
  rcases N with _ | N
  · cases h
  first | rw [spec_DrawCertApply.j2] at h | simp only [spec_DrawCertApply.j2] at h | (unfold spec_DrawCertApply.j2 at h; dsimp only at h)
  refine br_ite h dect (fun c100 h => ?_) (fun c100 h => ?_)
  ·refine br_eti h rfl (fun c101 h => ?_) (fun c101 h => ?_)
   ·cases h; exact hk
   refine call_h N h (fun t18 e102 h => ?_)
   refine br_eti h rfl (fun c103 h => ?_) (fun c103 h => ?_)
   ·cases h; exact hk
   refine br_itn h (congrArg not dect) (fun c104 h => ?_) (fun c104 h => ?_)
   ·cases h; exact hk
   refine br_g h rfl (fun c105 h => ?_)
   cases h; exact hk
  refine br_eti h rfl (fun c106 h => ?_) (fun c106 h => ?_)
  ·cases h; exact hk
  refine call_h N h (fun t19 e107 h => ?_)
  refine br_eti h rfl (fun c108 h => ?_) (fun c108 h => ?_)
  ·cases h; exact hk
  refine br_itn h (congrArg not dect) (fun c109 h => ?_) (fun c109 h => ?_)
  ·cases h; exact hk
  refine br_g h rfl (fun c110 h => ?_)
  cases h; exact hk
 refine call_h N h (fun t10 e111 h => ?_)
 rcases N with _ | N
 · cases h
 first | rw [spec_DrawCertApply.j1] at h | simp only [spec_DrawCertApply.j1] at h | (unfold spec_DrawCertApply.j1 at h; dsimp only at h)
 refine call_h N h (fun t11 e112 h => ?_)
 refine call_h N h (fun t12 e113 h => ?_)
 refine br_eti h rfl (fun c114 h => ?_) (fun c114 h => ?_)
 ·rcases N with _ | N
  · cases h
  first | rw [spec_DrawCertApply.j2] at h | simp only [spec_DrawCertApply.j2] at h | (unfold spec_DrawCertApply.j2 at h; dsimp only at h)
  replace h := ite_f h (by first | assumption | omega | simp_all)
  refine br_eti h rfl (fun c115 h => ?_) (fun c115 h => ?_)
  ·cases h; exact hk
  refine call_h N h (fun t15 e116 h => ?_)
  refine br_eti h rfl (fun c117 h => ?_) (fun c117 h => ?_)
  ·cases h; exact hk
  refine br_itn h (congrArg not dect) (fun c118 h => ?_) (fun c118 h => ?_)
  ·cases h; exact hk
  refine br_g h rfl (fun c119 h => ?_)
  cases h; exact hk
 rcases N with _ | N
 · cases h
 first | rw [spec_DrawCertApply.j2] at h | simp only [spec_DrawCertApply.j2] at h | (unfold spec_DrawCertApply.j2 at h; dsimp only at h)
 refine br_ite h dect (fun c120 h => ?_) (fun c120 h => ?_)
 ·refine br_eti h rfl (fun c121 h => ?_) (fun c121 h => ?_)
  ·cases h; exact hk
  refine call_h N h (fun t13 e122 h => ?_)
  refine br_eti h rfl (fun c123 h => ?_) (fun c123 h => ?_)
  ·cases h; exact hk
  refine br_itn h (congrArg not dect) (fun c124 h => ?_) (fun c124 h => ?_)
  ·cases h; exact hk
  refine br_g h rfl (fun c125 h => ?_)
  cases h; exact hk
 refine br_eti h rfl (fun c126 h => ?_) (fun c126 h => ?_)
 ·cases h; exact hk
 refine call_h N h (fun t14 e127 h => ?_)
 refine br_eti h rfl (fun c128 h => ?_) (fun c128 h => ?_)
 ·cases h; exact hk
 refine br_itn h (congrArg not dect) (fun c129 h => ?_) (fun c129 h => ?_)
 ·cases h; exact hk
 refine br_g h rfl (fun c130 h => ?_)
 cases h; exact hk
noncomputable def C_49 : Ctr tau Unit := ctrS 48 c_48 C_48
noncomputable def D_49 : Drw tau := drawA E_49 C_49
theorem okC_49 : CtrOk Try.prog TT pnT C_49 := ctrS_ok okC_48 okc_48
theorem mC_49 : CtrMono C_49 := ctrS_mono mC_48 mc_48
theorem mD_49 : DrMono D_49 := drawA_mono mC_49
noncomputable def B_49 : Code := Try.f49.body.getD .skip
theorem mc_49 (args : List (AV tau)) (m : Mem tau) (k k' : AV tau → Mem tau → Option Unit) (hk : ∀ av m, k av m = some () → k' av m = some ()) (h : c_49 args m k = some ()) : c_49 args m k' = some () := by
 unfold c_49 at h ⊢
 split at h
 · repeat' first | exact callX_mono (fun _ h => hk _ _ h) h | refine bO_mono (fun _ h => ?_) h
 · cases h
noncomputable def K_49_0 (k : AV tau → Mem tau → Option Unit) : Kon tau := (kBlock 0 (kS E_49 C_49 D_49 (codeP B_49 [1, 1, 1]) (kEnd E_49 Try.f49 k)))
def st_49_0 (x0 : Int) (x1 : Int) (x2 : (List S37)) (x3 : (List S84)) : St tau := ⟨tmL 79 0 [(1, .ptr 0 0), (3, .int .i64 x0)], ⟨[some (69, [.int .i64 x1, .sl 37 x2, .sl 84 x3])], []⟩⟩
noncomputable def LP_49_0 (k : AV tau → Mem tau → Option Unit) (x0 : Int) (x1 : Int) (x2 : (List S37)) (x3 : (List S84)) : Option Unit := loopA E_49 (codeA E_49 C_49 D_49 (codeP B_49 [1, 1, 0, 1, 0, 0])) (codeP B_49 [1, 1, 0, 1, 0, 0]) (K_49_0 k) (st_49_0 x0 x1 x2 x3)
theorem w_49_0 (k : AV tau → Mem tau → Option Unit) (x0 : Int) (x1 : Int) (x2 : (List S37)) (x3 : (List S84)) : codeA E_49 C_49 D_49 (codeP B_49 [1, 1, 0, 1, 0, 0]) (kL E_49 C_49 D_49 (codeP B_49 [1, 1, 0, 1, 0, 0]) (K_49_0 k)) (st_49_0 x0 x1 x2 x3) = (brA (decide (x0 < ((x3.length : Nat) : Int))) (brA (decide ((0 : Int) ≤ x0)) (brA (decide (x0 < ((x3.length : Nat) : Int))) (callX (fun n => spec_l5Req.f (((rd_T84 x3 x0).f0).f0) (((rd_T84 x3 x0).f0).f1)) fun t1 => brA (!t1) (k (.bool false) ⟨[], []⟩) (brA (decide ((rd_T84 x3 x0).f1 < (0 : Int))) (k (.bool false) ⟨[], []⟩) (brA (decide ((rd_T84 x3 x0).f1 > (2 : Int))) (k (.bool false) ⟨[], []⟩) (callX (fun n => spec_l1Num.f ((rd_T84 x3 x0).f2)) fun t2 => brA (!t2) (k (.bool false) ⟨[], []⟩) (brA (!(decide ((rd_T84 x3 x0).f1 = (0 : Int)))) (brA (!(decide ((rd_T84 x3 x0).f2 = (0 : Int)))) (k (.bool false) ⟨[], []⟩) (brA (decide (x0 > (0 : Int))) (brA (decide ((0 : Int) ≤ (wrap64 (x0 - (1 : Int))))) (brA (decide ((wrap64 (x0 - (1 : Int))) < ((x3.length : Nat) : Int))) (brA (decide (((rd_T84 x3 x0).f0).f0 ≤ ((rd_T84 x3 (wrap64 (x0 - (1 : Int)))).f0).f0)) (k (.bool false) ⟨[], []⟩) (LP_49_0 k (wrap64 (x0 + (1 : Int))) x1 x2 x3)) (none)) (none)) (LP_49_0 k (wrap64 (x0 + (1 : Int))) x1 x2 x3))) (brA (decide (x0 > (0 : Int))) (brA (decide ((0 : Int) ≤ (wrap64 (x0 - (1 : Int))))) (brA (decide ((wrap64 (x0 - (1 : Int))) < ((x3.length : Nat) : Int))) (brA (decide (((rd_T84 x3 x0).f0).f0 ≤ ((rd_T84 x3 (wrap64 (x0 - (1 : Int)))).f0).f0)) (k (.bool false) ⟨[], []⟩) (LP_49_0 k (wrap64 (x0 + (1 : Int))) x1 x2 x3)) (none)) (none)) (LP_49_0 k (wrap64 (x0 + (1 : Int))) x1 x2 x3))))))) (none)) (none)) (k (.bool true) ⟨[], []⟩) : Option Unit) := by kernel_rfl
theorem w_49 (a0_0 : Int) (l0_1 : List S37) (l0_2 : List S84) (k : AV tau → Mem tau → Option Unit) : fnA E_49 C_49 D_49 Try.f49 B_49 [.agg [.int .i64 a0_0, .sl 37 l0_1, .sl 84 l0_2]] ⟨[], []⟩ k = (brA (decide (a0_0 < (0 : Int))) (k (.bool false) ⟨[], []⟩) (brA (decide (a0_0 > (40 : Int))) (k (.bool false) ⟨[], []⟩) (callX (fun n => spec_BoxOk.f n l0_1) fun t0 => brA (!t0) (k (.bool false) ⟨[], []⟩) (LP_49_0 k (0 : Int) a0_0 l0_1 l0_2))) : Option Unit) := by kernel_rfl
def S_49_0 (N : Nat) : Prop := ∀ (k : AV tau → Mem tau → Option Unit) (x0 : Int) (x1 : Int) (x2 : (List S37)) (x3 : (List S84)) (r : Bool), spec_CertOk.l0 N (x0) (x1) (x2) (x3) = some r → k (.bool (r)) ⟨[], []⟩ = some () → LP_49_0 k x0 x1 x2 x3 = some ()
theorem L_49 (N : Nat) : S_49_0 N := by
 induction N using Nat.strongRecOn with | _ N0 ih =>
 skip
 intro k x0 x1 x2 x3 r h hk
 rcases N0 with _ | N
 · cases h
 first | rw [spec_CertOk.l0] at h | simp only [spec_CertOk.l0] at h | (unfold spec_CertOk.l0 at h; dsimp only at h)
 refine loop_fold mC_49 mD_49 ?_
 refine (w_49_0 k x0 x1 x2 x3).trans ?_
 refine br_eti h rfl (fun c45 h => ?_) (fun c45 h => ?_)
 ·cases h; exact hk
 refine br_g h rfl (fun c46 h => ?_)
 refine br_t (by first | (simp [c45]; done) | (simp; omega) | (simp_all; done)) ?_
 refine call_h 0 h (fun t1 e47 h => ?_)
 refine br_etn h (congrArg not dect) (fun c48 h => ?_) (fun c48 h => ?_)
 ·rcases N with _ | N
  · cases h
  first | rw [spec_CertOk.j2] at h | simp only [spec_CertOk.j2] at h | (unfold spec_CertOk.j2 at h; dsimp only at h)
  replace h := ite_t h (by first | assumption | omega | simp_all)
  cases h; exact hk
 refine br_ite h rfl (fun c49 h => ?_) (fun c49 h => ?_)
 ·rcases N with _ | N
  · cases h
  first | rw [spec_CertOk.j2] at h | simp only [spec_CertOk.j2] at h | (unfold spec_CertOk.j2 at h; dsimp only at h)
  replace h := ite_t h (by first | assumption | omega | simp_all)
  cases h; exact hk
 refine br_ite h rfl (fun c50 h => ?_) (fun c50 h => ?_)
 ·rcases N with _ | N
  · cases h
  first | rw [spec_CertOk.j2] at h | simp only [spec_CertOk.j2] at h | (unfold spec_CertOk.j2 at h; dsimp only at h)
  replace h := ite_t h (by first | assumption | omega | simp_all)
  cases h; exact hk
 refine call_h 0 h (fun t2 e51 h => ?_)
 refine br_etn h (congrArg not dect) (fun c52 h => ?_) (fun c52 h => ?_)
 ·rcases N with _ | N
  · cases h
  first | rw [spec_CertOk.j2] at h | simp only [spec_CertOk.j2] at h | (unfold spec_CertOk.j2 at h; dsimp only at h)
  replace h := ite_t h (by first | assumption | omega | simp_all)
  cases h; exact hk
 refine br_itn h rfl (fun c53 h => ?_) (fun c53 h => ?_)
 ·refine br_eti h rfl (fun c54 h => ?_) (fun c54 h => ?_)
  ·rcases N with _ | N
   · cases h
   first | rw [spec_CertOk.j2] at h | simp only [spec_CertOk.j2] at h | (unfold spec_CertOk.j2 at h; dsimp only at h)
   replace h := ite_f h (by first | assumption | omega | simp_all)
   exact (ih N (by omega)) _ _ _ _ _ _ h hk
  refine br_g h rfl (fun c55 h => ?_)
  refine br_g h rfl (fun c56 h => ?_)
  rcases N with _ | N
  · cases h
  first | rw [spec_CertOk.j2] at h | simp only [spec_CertOk.j2] at h | (unfold spec_CertOk.j2 at h; dsimp only at h)
  refine br_ite h (by first | rfl | exact dect | exact (congrArg not dect) | (simp; done) | (simp [beqI]; done) | (simp; omega)) (fun c57 h => ?_) (fun c57 h => ?_)
  ·cases h; exact hk
  exact (ih N (by omega)) _ _ _ _ _ _ h hk
 refine br_etn h rfl (fun c58 h => ?_) (fun c58 h => ?_)
 ·rcases N with _ | N
  · cases h
  first | rw [spec_CertOk.j2] at h | simp only [spec_CertOk.j2] at h | (unfold spec_CertOk.j2 at h; dsimp only at h)
  replace h := ite_t h (by first | assumption | omega | simp_all)
  cases h; exact hk
 refine br_eti h rfl (fun c59 h => ?_) (fun c59 h => ?_)
 ·rcases N with _ | N
  · cases h
  first | rw [spec_CertOk.j2] at h | simp only [spec_CertOk.j2] at h | (unfold spec_CertOk.j2 at h; dsimp only at h)
  replace h := ite_f h (by first | assumption | omega | simp_all)
  exact (ih N (by omega)) _ _ _ _ _ _ h hk
 refine br_g h rfl (fun c60 h => ?_)
 refine br_g h rfl (fun c61 h => ?_)
 rcases N with _ | N
 · cases h
 first | rw [spec_CertOk.j2] at h | simp only [spec_CertOk.j2] at h | (unfold spec_CertOk.j2 at h; dsimp only at h)
 refine br_ite h (by first | rfl | exact dect | exact (congrArg not dect) | (simp; done) | (simp [beqI]; done) | (simp; omega)) (fun c62 h => ?_) (fun c62 h => ?_)
 ·cases h; exact hk
 exact (ih N (by omega)) _ _ _ _ _ _ h hk
theorem okc_49 (args : List (AV tau)) (m : Mem tau) (κ : AV tau → Mem tau → Option Unit) (hh : c_49 args m κ = some ()) : ∃ av m1, κ av m1 = some () ∧ ToldA Try.prog TT (pnT 49) 49 args m av m1 := by
 obtain ⟨bx_, rw_⟩ := m
 unfold c_49 at hh
 simp only at hh
 split at hh
 case h_2 => cases hh
 rename_i b0 b1 b2
 obtain ⟨a0_0, hx0, hh0⟩ := bO_some hh
 obtain ⟨l0_1, hx1, hh1⟩ := bO_some hh0
 obtain ⟨l0_2, hx2, hh2⟩ := bO_some hh1
 have ex0 := asI_some hx0
 have ex1 := asSl_some hx1
 have ex2 := asSl_some hx2
 subst ex0 ex1 ex2
 obtain ⟨N, t, h, hκ⟩ := callX_some hh2
 refine ⟨_, _, hκ, told_of_run pq okC_49 (fun _ _ _ => drawA_ok pq okC_49 hmix) (E := E_49) (fn := Try.f49) (body := B_49) (by kernel_rfl) (by kernel_rfl) (by kernel_rfl) (by rfl) (by exact Nat.le_of_ble_eq_true rfl) (fun k hk => ?_)⟩
 refine (w_49 a0_0 l0_1 l0_2 k).trans ?_
 replace h : spec_CertOk.f N a0_0 l0_1 l0_2 = some t := h
 unfold spec_CertOk.f at h
 refine br_ite h rfl (fun c63 h => ?_) (fun c63 h => ?_)
 ·rcases N with _ | N
  · cases h
  first | rw [spec_CertOk.j0] at h | simp only [spec_CertOk.j0] at h | (unfold spec_CertOk.j0 at h; dsimp only at h)
  replace h := ite_t h (by first | assumption | omega | simp_all)
  cases h; exact hk
 refine br_ite h rfl (fun c64 h => ?_) (fun c64 h => ?_)
 ·rcases N with _ | N
  · cases h
  first | rw [spec_CertOk.j0] at h | simp only [spec_CertOk.j0] at h | (unfold spec_CertOk.j0 at h; dsimp only at h)
  replace h := ite_t h (by first | assumption | omega | simp_all)
  cases h; exact hk
 refine call_h N h (fun t0 e65 h => ?_)
 rcases N with _ | N
 · cases h
 first | rw [spec_CertOk.j0] at h | simp only [spec_CertOk.j0] at h | (unfold spec_CertOk.j0 at h; dsimp only at h)
 refine br_ite h dect (fun c66 h => ?_) (fun c66 h => ?_)
 ·cases h; exact hk
 exact (L_49 N) _ _ _ _ _ _ h hk
noncomputable def C_89 : Ctr tau Unit := ctrS 49 c_49 C_49
noncomputable def D_89 : Drw tau := drawA E_89 C_89
theorem okC_89 : CtrOk Try.prog TT pnT C_89 := ctrS_ok okC_49 okc_49
theorem mC_89 : CtrMono C_89 := ctrS_mono mC_49 mc_49
theorem mD_89 : DrMono D_89 := drawA_mono mC_89
noncomputable def B_89 : Code := Try.f89.body.getD .skip
theorem mc_89 (args : List (AV tau)) (m : Mem tau) (k k' : AV tau → Mem tau → Option Unit) (hk : ∀ av m, k av m = some () → k' av m = some ()) (h : c_89 args m k = some ()) : c_89 args m k' = some () := by
 unfold c_89 at h ⊢
 split at h
 · repeat' first | exact callX_mono (fun _ h => hk _ _ h) h | refine bO_mono (fun _ h => ?_) h
 · cases h
theorem w_89 (l0 : List S37) (k : AV tau → Mem tau → Option Unit) : fnA E_89 C_89 D_89 Try.f89 B_89 [.sl 37 l0] ⟨[], []⟩ k = (brA (decide ((0 + l0.length) ≤ 8796093022208)) (k (.own 0 0) ⟨[], [some ⟨37, l0, 0⟩]⟩) (none) : Option Unit) := by kernel_rfl
theorem okc_89 (args : List (AV tau)) (m : Mem tau) (κ : AV tau → Mem tau → Option Unit) (hh : c_89 args m κ = some ()) : ∃ av m1, κ av m1 = some () ∧ ToldA Try.prog TT (pnT 89) 89 args m av m1 := by
 obtain ⟨bx_, rw_⟩ := m
 unfold c_89 at hh
 simp only at hh
 split at hh
 case h_2 => cases hh
 rename_i b0
 obtain ⟨l0, hx0, hh0⟩ := bO_some hh
 have ex0 := asSl_some hx0
 subst ex0
 obtain ⟨N, t, h, hκ⟩ := callX_some hh0
 refine ⟨_, _, hκ, told_of_run pq okC_89 (fun _ _ _ => drawA_ok pq okC_89 hmix) (E := E_89) (fn := Try.f89) (body := B_89) (by kernel_rfl) (by kernel_rfl) (by kernel_rfl) (by rfl) (by exact Nat.le_of_ble_eq_true rfl) (fun k hk => ?_)⟩
 refine (w_89 l0 k).trans ?_
 replace h : spec_l1Copy.f l0 = some t := h
 unfold spec_l1Copy.f at h
 replace h := let_h h
 refine ite_x h (fun c2 h => ?_) (fun _ h => by cases h)
 refine br_t (by simp; omega) ?_
 cases h; exact hk
noncomputable def C_123 : Ctr tau Unit := ctrS 89 c_89 C_89
noncomputable def D_123 : Drw tau := drawA E_123 C_123
theorem okC_123 : CtrOk Try.prog TT pnT C_123 := ctrS_ok okC_89 okc_89
theorem mC_123 : CtrMono C_123 := ctrS_mono mC_89 mc_89
theorem mD_123 : DrMono D_123 := drawA_mono mC_123
noncomputable def B_123 : Code := Try.f123.body.getD .skip
theorem mc_123 (args : List (AV tau)) (m : Mem tau) (k k' : AV tau → Mem tau → Option Unit) (hk : ∀ av m, k av m = some () → k' av m = some ()) (h : c_123 args m k = some ()) : c_123 args m k' = some () := by
 unfold c_123 at h ⊢
 split at h
 · repeat' first | exact callX_mono (fun _ h => hk _ _ h) h | refine bO_mono (fun _ h => ?_) h
 · cases h
theorem w_123 (a0_0 : Int) (l0_1 : List S37) (l0_2 : List S84) (k : AV tau → Mem tau → Option Unit) : fnA E_123 C_123 D_123 Try.f123 B_123 [.agg [.int .i64 a0_0, .sl 37 l0_1, .sl 84 l0_2]] ⟨[], []⟩ k = (andA (callX (fun n => spec_l1Copy.f l0_1) fun t0 => brA (decide ((0 + l0_2.length) ≤ 4398046511104)) (k (.agg [.int .i64 a0_0, .own 0 0, .own 1 0]) ⟨[], [some ⟨37, t0, 0⟩, some ⟨84, l0_2, 0⟩]⟩) (none)) (callX (fun n => spec_l1Copy.f l0_1) fun t1 => brA (decide ((0 + l0_2.length) ≤ 4398046511104)) (k (.agg [.int .i64 a0_0, .own 0 0, .own 1 0]) ⟨[], [some ⟨37, t1, 0⟩, some ⟨84, l0_2, 0⟩]⟩) (none)) : Option Unit) := by kernel_rfl
theorem okc_123 (args : List (AV tau)) (m : Mem tau) (κ : AV tau → Mem tau → Option Unit) (hh : c_123 args m κ = some ()) : ∃ av m1, κ av m1 = some () ∧ ToldA Try.prog TT (pnT 123) 123 args m av m1 := by
 obtain ⟨bx_, rw_⟩ := m
 unfold c_123 at hh
 simp only at hh
 split at hh
 case h_2 => cases hh
 rename_i b0 b1 b2
 obtain ⟨a0_0, hx0, hh0⟩ := bO_some hh
 obtain ⟨l0_1, hx1, hh1⟩ := bO_some hh0
 obtain ⟨l0_2, hx2, hh2⟩ := bO_some hh1
 have ex0 := asI_some hx0
 have ex1 := asSl_some hx1
 have ex2 := asSl_some hx2
 subst ex0 ex1 ex2
 obtain ⟨N, t, h, hκ⟩ := callX_some hh2
 refine ⟨_, _, hκ, told_of_run pq okC_123 (fun _ _ _ => drawA_ok pq okC_123 hmix) (E := E_123) (fn := Try.f123) (body := B_123) (by kernel_rfl) (by kernel_rfl) (by kernel_rfl) (by rfl) (by exact Nat.le_of_ble_eq_true rfl) (fun k hk => ?_)⟩
 refine (w_123 a0_0 l0_1 l0_2 k).trans ?_
 replace h : spec_l5Copy.f a0_0 l0_1 l0_2 = some t := h
 unfold spec_l5Copy.f at h
 refine andA_of ?_ ?_
 ·refine call_h 0 h (fun t0 e5 h => ?_)
  replace h := let_h h
  refine ite_x h (fun c6 h => ?_) (fun _ h => by cases h)
  refine br_t (by simp; omega) ?_
  cases h; exact hk
 refine call_h 0 h (fun t1 e7 h => ?_)
 replace h := let_h h
 refine ite_x h (fun c8 h => ?_) (fun _ h => by cases h)
 refine br_t (by simp; omega) ?_
 cases h; exact hk
noncomputable def C_51 : Ctr tau Unit := ctrS 123 c_123 C_123
noncomputable def D_51 : Drw tau := drawA E_51 C_51
theorem okC_51 : CtrOk Try.prog TT pnT C_51 := ctrS_ok okC_123 okc_123
theorem mC_51 : CtrMono C_51 := ctrS_mono mC_123 mc_123
theorem mD_51 : DrMono D_51 := drawA_mono mC_51
noncomputable def B_51 : Code := Try.f51.body.getD .skip
theorem mc_51 (args : List (AV tau)) (m : Mem tau) (k k' : AV tau → Mem tau → Option Unit) (hk : ∀ av m, k av m = some () → k' av m = some ()) (h : c_51 args m k = some ()) : c_51 args m k' = some () := by
 unfold c_51 at h ⊢
 split at h
 · repeat' first | exact callX_mono (fun _ h => hk _ _ h) h | refine bO_mono (fun _ h => ?_) h
 · cases h
theorem w_51 (a0_0 : Int) (l0_1 : List S37) (l0_2 : List S84) (a1_0 : Bool) (a1_1 : Int) (a1_2 : Int) (l1_3 : List S39) (l1_4 : List S82) (a1_5 : Int) (a1_6 : Int) (k : AV tau → Mem tau → Option Unit) : fnA E_51 C_51 D_51 Try.f51 B_51 [.agg [.int .i64 a0_0, .sl 37 l0_1, .sl 84 l0_2], .agg [.bool a1_0, .int .i64 a1_1, .int .i64 a1_2, .sl 39 l1_3, .sl 82 l1_4, .int .i64 a1_5, .int .i64 a1_6]] ⟨[], []⟩ k = (callX (fun n => spec_CertOk.f n a0_0 l0_1 l0_2) fun t0 => brA (!t0) (k (.tup [.agg [.int .i64 (0 : Int), .own 0 0, .own 1 0], .int .i64 (-(1 : Int))]) ⟨[], [some ⟨37, ([] : List S37), 0⟩, some ⟨84, ([] : List S84), 0⟩]⟩) (callX (fun n => spec_CertEntry.f n a1_0 a1_1 a1_2 l1_3 l1_4 a1_5 a1_6) fun t1 => brA (!t1) (k (.tup [.agg [.int .i64 (0 : Int), .own 0 0, .own 1 0], .int .i64 (-(1 : Int))]) ⟨[], [some ⟨37, ([] : List S37), 0⟩, some ⟨84, ([] : List S84), 0⟩]⟩) (brA (decide (a0_0 = (40 : Int))) (k (.tup [.agg [.int .i64 (0 : Int), .own 0 0, .own 1 0], .int .i64 (-(1 : Int))]) ⟨[], [some ⟨37, ([] : List S37), 0⟩, some ⟨84, ([] : List S84), 0⟩]⟩) (callX (fun n => spec_l5Copy.f a0_0 l0_1 l0_2) fun t2 => callX (fun n => spec_l5Apply.f n t2.1 t2.2.1 t2.2.2 a1_0 a1_1 a1_2 l1_3 l1_4 a1_5 a1_6) fun t3 => k (.tup [.agg [.int .i64 t3.1, .own 0 0, .own 1 0], .int .i64 t3.2.2.2]) ⟨[], [some ⟨37, t3.2.1, 0⟩, some ⟨84, t3.2.2.1, 0⟩]⟩))) : Option Unit) := by kernel_rfl
theorem okc_51 (args : List (AV tau)) (m : Mem tau) (κ : AV tau → Mem tau → Option Unit) (hh : c_51 args m κ = some ()) : ∃ av m1, κ av m1 = some () ∧ ToldA Try.prog TT (pnT 51) 51 args m av m1 := by
 obtain ⟨bx_, rw_⟩ := m
 unfold c_51 at hh
 simp only at hh
 split at hh
 case h_2 => cases hh
 rename_i b0 b1 b2 b3 b4 b5 b6 b7 b8 b9
 obtain ⟨a0_0, hx0, hh0⟩ := bO_some hh
 obtain ⟨l0_1, hx1, hh1⟩ := bO_some hh0
 obtain ⟨l0_2, hx2, hh2⟩ := bO_some hh1
 obtain ⟨a1_0, hx3, hh3⟩ := bO_some hh2
 obtain ⟨a1_1, hx4, hh4⟩ := bO_some hh3
 obtain ⟨a1_2, hx5, hh5⟩ := bO_some hh4
 obtain ⟨l1_3, hx6, hh6⟩ := bO_some hh5
 obtain ⟨l1_4, hx7, hh7⟩ := bO_some hh6
 obtain ⟨a1_5, hx8, hh8⟩ := bO_some hh7
 obtain ⟨a1_6, hx9, hh9⟩ := bO_some hh8
 have ex0 := asI_some hx0
 have ex1 := asSl_some hx1
 have ex2 := asSl_some hx2
 have ex3 := asB_some hx3
 have ex4 := asI_some hx4
 have ex5 := asI_some hx5
 have ex6 := asSl_some hx6
 have ex7 := asSl_some hx7
 have ex8 := asI_some hx8
 have ex9 := asI_some hx9
 subst ex0 ex1 ex2 ex3 ex4 ex5 ex6 ex7 ex8 ex9
 obtain ⟨N, t, h, hκ⟩ := callX_some hh9
 refine ⟨_, _, hκ, told_of_run pq okC_51 (fun _ _ _ => drawA_ok pq okC_51 hmix) (E := E_51) (fn := Try.f51) (body := B_51) (by kernel_rfl) (by kernel_rfl) (by kernel_rfl) (by rfl) (by exact Nat.le_of_ble_eq_true rfl) (fun k hk => ?_)⟩
 refine (w_51 a0_0 l0_1 l0_2 a1_0 a1_1 a1_2 l1_3 l1_4 a1_5 a1_6 k).trans ?_
 replace h : spec_CertApply.f N a0_0 l0_1 l0_2 a1_0 a1_1 a1_2 l1_3 l1_4 a1_5 a1_6 = some t := h
 unfold spec_CertApply.f at h
 refine call_h N h (fun t0 e8 h => ?_)
 refine br_etn h (congrArg not dect) (fun c9 h => ?_) (fun c9 h => ?_)
 ·rcases N with _ | N
  · cases h
  first | rw [spec_CertApply.j0] at h | simp only [spec_CertApply.j0] at h | (unfold spec_CertApply.j0 at h; dsimp only at h)
  replace h := ite_t h (by first | assumption | omega | simp_all)
  cases h; exact hk
 refine call_h N h (fun t1 e10 h => ?_)
 refine br_etn h (congrArg not dect) (fun c11 h => ?_) (fun c11 h => ?_)
 ·rcases N with _ | N
  · cases h
  first | rw [spec_CertApply.j0] at h | simp only [spec_CertApply.j0] at h | (unfold spec_CertApply.j0 at h; dsimp only at h)
  replace h := ite_t h (by first | assumption | omega | simp_all)
  cases h; exact hk
 rcases N with _ | N
 · cases h
 first | rw [spec_CertApply.j0] at h | simp only [spec_CertApply.j0] at h | (unfold spec_CertApply.j0 at h; dsimp only at h)
 refine br_ite h (by first | rfl | exact dect | exact (congrArg not dect) | (simp; done) | (simp [beqI]; done) | (simp; omega)) (fun c12 h => ?_) (fun c12 h => ?_)
 ·cases h; exact hk
 refine call_h 0 h (fun t2 e13 h => ?_)
 refine call_h N h (fun t3 e14 h => ?_)
 cases h; exact hk
noncomputable def C_8 : Ctr tau Unit := ctrS 51 c_51 C_51
noncomputable def D_8 : Drw tau := drawA E_8 C_8
theorem okC_8 : CtrOk Try.prog TT pnT C_8 := ctrS_ok okC_51 okc_51
theorem mC_8 : CtrMono C_8 := ctrS_mono mC_51 mc_51
theorem mD_8 : DrMono D_8 := drawA_mono mC_8
noncomputable def B_8 : Code := Try.f8.body.getD .skip
theorem mc_8 (args : List (AV tau)) (m : Mem tau) (k k' : AV tau → Mem tau → Option Unit) (hk : ∀ av m, k av m = some () → k' av m = some ()) (h : c_8 args m k = some ()) : c_8 args m k' = some () := by
 unfold c_8 at h ⊢
 split at h
 · repeat' first | exact callX_mono (fun _ h => hk _ _ h) h | refine bO_mono (fun _ h => ?_) h
 · cases h
noncomputable def K_8_0 (k : AV tau → Mem tau → Option Unit) : Kon tau := (kBlock 0 (kS E_8 C_8 D_8 (codeP B_8 [1, 1, 1, 1, 1, 1, 1, 1, 1]) (kEnd E_8 Try.f8 k)))
noncomputable def K_8_1 (k : AV tau → Mem tau → Option Unit) : Kon tau := (kBlock 2 (kS E_8 C_8 D_8 (codeP B_8 [1, 1, 1, 1, 1, 1, 1, 1, 0, 1, 0, 0, 1, 0, 0, 1, 1, 1]) (kBlock 1 (kS E_8 C_8 D_8 (codeP B_8 [1, 1, 1, 1, 1, 1, 1, 1, 0, 1, 0, 0, 1, 1]) (kL E_8 C_8 D_8 (codeP B_8 [1, 1, 1, 1, 1, 1, 1, 1, 0, 1, 0, 0]) (kBlock 0 (kS E_8 C_8 D_8 (codeP B_8 [1, 1, 1, 1, 1, 1, 1, 1, 1]) (kEnd E_8 Try.f8 k))))))))
def st_8_0 (x0 : Int) (x1 : Int) (x2 : Int) (x3 : Bool) (x4 : Int) (x5 : Int) (x6 : Int) (x7 : Int) (x8 : Int) (x9 : (List S37)) (x10 : (List S84)) (x11 : (List S39)) (x12 : (List S82)) (x13 : (List S37)) (x14 : (List S84)) : St tau := ⟨tmL 155 0 [(3, .ptr 0 0), (4, .ptr 1 0), (5, .ptr 2 0), (6, .int .i64 x0), (9, .int .i64 x1)], ⟨[some (69, [.int .i64 x2, .own 0 0, .own 1 0]), some (77, [.bool x3, .int .i64 x4, .int .i64 x5, .own 2 0, .own 3 0, .int .i64 x6, .int .i64 x7]), some (69, [.int .i64 x8, .own 4 0, .own 5 0])], [some ⟨37, x9, 0⟩, some ⟨84, x10, 0⟩, some ⟨39, x11, 0⟩, some ⟨82, x12, 0⟩, some ⟨37, x13, 0⟩, some ⟨84, x14, 0⟩]⟩⟩
noncomputable def LP_8_0 (k : AV tau → Mem tau → Option Unit) (x0 : Int) (x1 : Int) (x2 : Int) (x3 : Bool) (x4 : Int) (x5 : Int) (x6 : Int) (x7 : Int) (x8 : Int) (x9 : (List S37)) (x10 : (List S84)) (x11 : (List S39)) (x12 : (List S82)) (x13 : (List S37)) (x14 : (List S84)) : Option Unit := loopA E_8 (codeA E_8 C_8 D_8 (codeP B_8 [1, 1, 1, 1, 1, 1, 1, 1, 0, 1, 0, 0])) (codeP B_8 [1, 1, 1, 1, 1, 1, 1, 1, 0, 1, 0, 0]) (K_8_0 k) (st_8_0 x0 x1 x2 x3 x4 x5 x6 x7 x8 x9 x10 x11 x12 x13 x14)
def st_8_1 (x0 : Int) (x1 : Int) (x2 : Bool) (x3 : Int) (x4 : Int) (x5 : Bool) (x6 : Int) (x7 : Int) (x8 : Int) (x9 : Int) (x10 : Int) (x11 : (List S37)) (x12 : (List S84)) (x13 : (List S39)) (x14 : (List S82)) (x15 : (List S37)) (x16 : (List S84)) : St tau := ⟨tmL 155 0 [(3, .ptr 0 0), (4, .ptr 1 0), (5, .ptr 2 0), (6, .int .i64 x0), (9, .int .i64 x1), (10, .bool x2), (11, .int .i64 x3)], ⟨[some (69, [.int .i64 x4, .own 0 0, .own 1 0]), some (77, [.bool x5, .int .i64 x6, .int .i64 x7, .own 2 0, .own 3 0, .int .i64 x8, .int .i64 x9]), some (69, [.int .i64 x10, .own 4 0, .own 5 0])], [some ⟨37, x11, 0⟩, some ⟨84, x12, 0⟩, some ⟨39, x13, 0⟩, some ⟨82, x14, 0⟩, some ⟨37, x15, 0⟩, some ⟨84, x16, 0⟩]⟩⟩
noncomputable def LP_8_1 (k : AV tau → Mem tau → Option Unit) (x0 : Int) (x1 : Int) (x2 : Bool) (x3 : Int) (x4 : Int) (x5 : Bool) (x6 : Int) (x7 : Int) (x8 : Int) (x9 : Int) (x10 : Int) (x11 : (List S37)) (x12 : (List S84)) (x13 : (List S39)) (x14 : (List S82)) (x15 : (List S37)) (x16 : (List S84)) : Option Unit := loopA E_8 (codeA E_8 C_8 D_8 (codeP B_8 [1, 1, 1, 1, 1, 1, 1, 1, 0, 1, 0, 0, 1, 0, 0, 1, 1, 0, 1, 0, 0])) (codeP B_8 [1, 1, 1, 1, 1, 1, 1, 1, 0, 1, 0, 0, 1, 0, 0, 1, 1, 0, 1, 0, 0]) (K_8_1 k) (st_8_1 x0 x1 x2 x3 x4 x5 x6 x7 x8 x9 x10 x11 x12 x13 x14 x15 x16)
theorem w_8_0 (k : AV tau → Mem tau → Option Unit) (x0 : Int) (x1 : Int) (x2 : Int) (x3 : Bool) (x4 : Int) (x5 : Int) (x6 : Int) (x7 : Int) (x8 : Int) (x9 : (List S37)) (x10 : (List S84)) (x11 : (List S39)) (x12 : (List S82)) (x13 : (List S37)) (x14 : (List S84)) : codeA E_8 C_8 D_8 (codeP B_8 [1, 1, 1, 1, 1, 1, 1, 1, 0, 1, 0, 0]) (kL E_8 C_8 D_8 (codeP B_8 [1, 1, 1, 1, 1, 1, 1, 1, 0, 1, 0, 0]) (K_8_0 k)) (st_8_0 x0 x1 x2 x3 x4 x5 x6 x7 x8 x9 x10 x11 x12 x13 x14) = (brA (decide (x1 < ((x10.length : Nat) : Int))) (brA (decide ((0 : Int) ≤ x1)) (brA (decide (x1 < ((x10.length : Nat) : Int))) (brA (decide (((rd_T84 x10 x1).f0).f0 = x4)) (brA (!x3) (LP_8_0 k x0 (wrap64 (x1 + (1 : Int))) x2 x3 x4 x5 x6 x7 x8 x9 x10 x11 x12 x13 x14) (LP_8_1 k x0 x1 false (0 : Int) x2 x3 x4 x5 x6 x7 x8 x9 x10 x11 x12 x13 x14)) (LP_8_1 k x0 x1 false (0 : Int) x2 x3 x4 x5 x6 x7 x8 x9 x10 x11 x12 x13 x14)) (none)) (none)) (brA (decide (x8 = (40 : Int))) (k (.bool true) ⟨[], []⟩) (callX (fun n => impl_CertApply.f n x8 x13 x14 x3 x4 x5 x11 x12 x6 x7) fun t9 => callX (fun n => impl_CertSame.f n x8 t9.2.1 t9.2.2.1 x8 x13 x14) fun t10 => brA t10 (brA x3 (brA (decide (t9.2.2.2 = (5 : Int))) (k (.bool true) ⟨[], []⟩) (brA (decide (t9.2.2.2 = (3 : Int))) (k (.bool true) ⟨[], []⟩) (brA (decide (x0 = (4 : Int))) (k (.bool (decide (t9.2.2.2 = (4 : Int)))) ⟨[], []⟩) (k (.bool false) ⟨[], []⟩)))) (brA (decide (t9.2.2.2 = (3 : Int))) (k (.bool true) ⟨[], []⟩) (brA (decide (x0 = (4 : Int))) (k (.bool (decide (t9.2.2.2 = (4 : Int)))) ⟨[], []⟩) (k (.bool false) ⟨[], []⟩)))) (k (.bool false) ⟨[], []⟩))) : Option Unit) := by kernel_rfl
theorem w_8_1 (k : AV tau → Mem tau → Option Unit) (x0 : Int) (x1 : Int) (x2 : Bool) (x3 : Int) (x4 : Int) (x5 : Bool) (x6 : Int) (x7 : Int) (x8 : Int) (x9 : Int) (x10 : Int) (x11 : (List S37)) (x12 : (List S84)) (x13 : (List S39)) (x14 : (List S82)) (x15 : (List S37)) (x16 : (List S84)) : codeA E_8 C_8 D_8 (codeP B_8 [1, 1, 1, 1, 1, 1, 1, 1, 0, 1, 0, 0, 1, 0, 0, 1, 1, 0, 1, 0, 0]) (kL E_8 C_8 D_8 (codeP B_8 [1, 1, 1, 1, 1, 1, 1, 1, 0, 1, 0, 0, 1, 0, 0, 1, 1, 0, 1, 0, 0]) (K_8_1 k)) (st_8_1 x0 x1 x2 x3 x4 x5 x6 x7 x8 x9 x10 x11 x12 x13 x14 x15 x16) = (brA (decide (x3 < ((x16.length : Nat) : Int))) (brA x2 (LP_8_1 k x0 x1 true (wrap64 (x3 + (1 : Int))) x4 x5 x6 x7 x8 x9 x10 x11 x12 x13 x14 x15 x16) (brA (decide ((0 : Int) ≤ x3)) (brA (decide (x3 < ((x16.length : Nat) : Int))) (brA (decide ((0 : Int) ≤ x1)) (brA (decide (x1 < ((x12.length : Nat) : Int))) (LP_8_1 k x0 x1 (((((rd_T84 x16 x3).f0).f0 == ((rd_T84 x12 x1).f0).f0) && (((rd_T84 x16 x3).f0).f1 == ((rd_T84 x12 x1).f0).f1)) && (((rd_T84 x16 x3).f1 == (rd_T84 x12 x1).f1) && ((rd_T84 x16 x3).f2 == (rd_T84 x12 x1).f2))) (wrap64 (x3 + (1 : Int))) x4 x5 x6 x7 x8 x9 x10 x11 x12 x13 x14 x15 x16) (none)) (none)) (none)) (none))) (brA (!x2) (k (.bool false) ⟨[], []⟩) (LP_8_0 k x0 (wrap64 (x1 + (1 : Int))) x4 x5 x6 x7 x8 x9 x10 x11 x12 x13 x14 x15 x16)) : Option Unit) := by kernel_rfl
theorem w_8 (l0 : List Int) (k : AV tau → Mem tau → Option Unit) : fnA E_8 C_8 D_8 Try.f8 B_8 [.sl 5 l0] ⟨[], []⟩ k = (brA (decide (((l0.length : Nat) : Int) > (1048576 : Int))) (k (.bool true) ⟨[], []⟩) (callX (fun n => spec_DrawCertApply.f n l0) fun t0 => callX (fun n => impl_CertApply.f n t0.1 t0.2.1 t0.2.2.1 t0.2.2.2.1 t0.2.2.2.2.1 t0.2.2.2.2.2.1 t0.2.2.2.2.2.2.1 t0.2.2.2.2.2.2.2.1 t0.2.2.2.2.2.2.2.2.1 t0.2.2.2.2.2.2.2.2.2) fun t1 => callX (fun n => spec_CertApply.f n t0.1 t0.2.1 t0.2.2.1 t0.2.2.2.1 t0.2.2.2.2.1 t0.2.2.2.2.2.1 t0.2.2.2.2.2.2.1 t0.2.2.2.2.2.2.2.1 t0.2.2.2.2.2.2.2.2.1 t0.2.2.2.2.2.2.2.2.2) fun t2 => brA (!(decide (t1.2.2.2 = t2.2.2.2))) (k (.bool false) ⟨[], []⟩) (callX (fun n => impl_CertSame.f n t1.1 t1.2.1 t1.2.2.1 t2.1 t2.2.1 t2.2.2.1) fun t3 => brA (!t3) (k (.bool false) ⟨[], []⟩) (callX (fun n => impl_CertOk.f n t0.1 t0.2.1 t0.2.2.1) fun t4 => callX (fun n => spec_CertOk.f n t0.1 t0.2.1 t0.2.2.1) fun t5 => brA (!(t4 == t5)) (k (.bool false) ⟨[], []⟩) (callX (fun n => impl_CertEntry.f n t0.2.2.2.1 t0.2.2.2.2.1 t0.2.2.2.2.2.1 t0.2.2.2.2.2.2.1 t0.2.2.2.2.2.2.2.1 t0.2.2.2.2.2.2.2.2.1 t0.2.2.2.2.2.2.2.2.2) fun t6 => callX (fun n => spec_CertEntry.f n t0.2.2.2.1 t0.2.2.2.2.1 t0.2.2.2.2.2.1 t0.2.2.2.2.2.2.1 t0.2.2.2.2.2.2.2.1 t0.2.2.2.2.2.2.2.2.1 t0.2.2.2.2.2.2.2.2.2) fun t7 => brA (!(t6 == t7)) (k (.bool false) ⟨[], []⟩) (brA (decide (t1.2.2.2 < (0 : Int))) (k (.bool (decide (((t1.2.1.length : Nat) : Int) = (0 : Int)))) ⟨[], []⟩) (callX (fun n => impl_CertOk.f n t1.1 t1.2.1 t1.2.2.1) fun t8 => brA (!t8) (k (.bool false) ⟨[], []⟩) (brA (!(decide (t1.1 = (wrap64 (t0.1 + (1 : Int)))))) (k (.bool false) ⟨[], []⟩) (LP_8_0 k t1.2.2.2 (0 : Int) t0.1 t0.2.2.2.1 t0.2.2.2.2.1 t0.2.2.2.2.2.1 t0.2.2.2.2.2.2.2.2.1 t0.2.2.2.2.2.2.2.2.2 t1.1 t0.2.1 t0.2.2.1 t0.2.2.2.2.2.2.1 t0.2.2.2.2.2.2.2.1 t1.2.1 t1.2.2.1)))))))) : Option Unit) := by kernel_rfl
def S_8_0 (N : Nat) : Prop := ∀ (k : AV tau → Mem tau → Option Unit) (x0 : Int) (x1 : Int) (x2 : Int) (x3 : Bool) (x4 : Int) (x5 : Int) (x6 : Int) (x7 : Int) (x8 : Int) (x9 : (List S37)) (x10 : (List S84)) (x11 : (List S39)) (x12 : (List S82)) (x13 : (List S37)) (x14 : (List S84)) (r : Bool), laws_FnCertApply.l0 N (x0) (x1) (x2) (x3) (x4) (x5) (x6) (x7) (x8) (x9) (x10) (x11) (x12) (x13) (x14) = some r → k (.bool (r)) ⟨[], []⟩ = some () → LP_8_0 k x0 x1 x2 x3 x4 x5 x6 x7 x8 x9 x10 x11 x12 x13 x14 = some ()
def S_8_1 (N : Nat) : Prop := ∀ (k : AV tau → Mem tau → Option Unit) (x0 : Int) (x1 : Int) (x2 : Bool) (x3 : Int) (x4 : Int) (x5 : Bool) (x6 : Int) (x7 : Int) (x8 : Int) (x9 : Int) (x10 : Int) (x11 : (List S37)) (x12 : (List S84)) (x13 : (List S39)) (x14 : (List S82)) (x15 : (List S37)) (x16 : (List S84)) (r : Bool), laws_FnCertApply.l1 N (x0) (x1) (x2) (x3) (x4) (x5) (x6) (x7) (x8) (x9) (x10) (x11) (x12) (x13) (x14) (x15) (x16) = some r → k (.bool (r)) ⟨[], []⟩ = some () → LP_8_1 k x0 x1 x2 x3 x4 x5 x6 x7 x8 x9 x10 x11 x12 x13 x14 x15 x16 = some ()
theorem L_8 (N : Nat) : S_8_0 N ∧ S_8_1 N := by
 induction N using Nat.strongRecOn with | _ N0 ih =>
 refine ⟨?_, ?_⟩
 ·intro k x0 x1 x2 x3 x4 x5 x6 x7 x8 x9 x10 x11 x12 x13 x14 r h hk
  rcases N0 with _ | N
  · cases h
  first | rw [laws_FnCertApply.l0] at h | simp only [laws_FnCertApply.l0] at h | (unfold laws_FnCertApply.l0 at h; dsimp only at h)
  refine loop_fold mC_8 mD_8 ?_
  refine (w_8_0 k x0 x1 x2 x3 x4 x5 x6 x7 x8 x9 x10 x11 x12 x13 x14).trans ?_
  refine br_ite h rfl (fun c79 h => ?_) (fun c79 h => ?_)
  ·refine br_g h rfl (fun c80 h => ?_)
   refine br_g h rfl (fun c81 h => ?_)
   refine br_eti h rfl (fun c82 h => ?_) (fun c82 h => ?_)
   ·exact (ih N (by omega)).2 _ _ _ _ _ _ _ _ _ _ _ _ _ _ _ _ _ _ _ h hk
   refine br_itn h (congrArg not dect) (fun c83 h => ?_) (fun c83 h => ?_)
   ·exact (ih N (by omega)).2 _ _ _ _ _ _ _ _ _ _ _ _ _ _ _ _ _ _ _ h hk
   exact (ih N (by omega)).1 _ _ _ _ _ _ _ _ _ _ _ _ _ _ _ _ _ h hk
  refine br_ite h rfl (fun c84 h => ?_) (fun c84 h => ?_)
  ·cases h; exact hk
  refine call_h N h (fun t9 e85 h => ?_)
  refine call_h N h (fun t10 e86 h => ?_)
  refine br_eti h dect (fun c87 h => ?_) (fun c87 h => ?_)
  ·cases h; exact hk
  refine br_eti h dect (fun c88 h => ?_) (fun c88 h => ?_)
  ·refine br_ite h rfl (fun c89 h => ?_) (fun c89 h => ?_)
   ·cases h; exact hk
   refine br_eti h rfl (fun c90 h => ?_) (fun c90 h => ?_)
   ·cases h; exact hk
   cases h; exact hk
  refine br_ite h rfl (fun c91 h => ?_) (fun c91 h => ?_)
  ·cases h; exact hk
  refine br_ite h rfl (fun c92 h => ?_) (fun c92 h => ?_)
  ·cases h; exact hk
  refine br_eti h rfl (fun c93 h => ?_) (fun c93 h => ?_)
  ·cases h; exact hk
  cases h; exact hk
 ·intro k x0 x1 x2 x3 x4 x5 x6 x7 x8 x9 x10 x11 x12 x13 x14 x15 x16 r h hk
  rcases N0 with _ | N
  · cases h
  first | rw [laws_FnCertApply.l1] at h | simp only [laws_FnCertApply.l1] at h | (unfold laws_FnCertApply.l1 at h; dsimp only at h)
  refine loop_fold mC_8 mD_8 ?_
  refine (w_8_1 k x0 x1 x2 x3 x4 x5 x6 x7 x8 x9 x10 x11 x12 x13 x14 x15 x16).trans ?_
  refine br_eti h rfl (fun c94 h => ?_) (fun c94 h => ?_)
  ·refine br_etn h (congrArg not dect) (fun c95 h => ?_) (fun c95 h => ?_)
   ·cases h; exact hk
   exact (ih N (by omega)).1 _ _ _ _ _ _ _ _ _ _ _ _ _ _ _ _ _ h hk
  refine br_ite h dect (fun c96 h => ?_) (fun c96 h => ?_)
  ·exact (ih N (by omega)).2 _ _ _ _ _ _ _ _ _ _ _ _ _ _ _ _ _ _ _ h hk
  refine br_g h rfl (fun c97 h => ?_)
  refine br_g h rfl (fun c98 h => ?_)
  refine br_g h rfl (fun c99 h => ?_)
  refine br_g h rfl (fun c100 h => ?_)
  exact (ih N (by omega)).2 _ _ _ _ _ _ _ _ _ _ _ _ _ _ _ _ _ _ _ h hk
theorem okc_8 (args : List (AV tau)) (m : Mem tau) (κ : AV tau → Mem tau → Option Unit) (hh : c_8 args m κ = some ()) : ∃ av m1, κ av m1 = some () ∧ ToldA Try.prog TT (pnT 8) 8 args m av m1 := by
 obtain ⟨bx_, rw_⟩ := m
 unfold c_8 at hh
 simp only at hh
 split at hh
 case h_2 => cases hh
 rename_i b0
 obtain ⟨l0, hx0, hh0⟩ := bO_some hh
 have ex0 := asSl_some hx0
 subst ex0
 obtain ⟨N, t, h, hκ⟩ := callX_some hh0
 refine ⟨_, _, hκ, told_of_run pq okC_8 (fun _ _ _ => drawA_ok pq okC_8 hmix) (E := E_8) (fn := Try.f8) (body := B_8) (by kernel_rfl) (by kernel_rfl) (by kernel_rfl) (by rfl) (by exact Nat.le_of_ble_eq_true rfl) (fun k hk => ?_)⟩
 refine (w_8 l0 k).trans ?_
 replace h : laws_FnCertApply.f N l0 = some t := h
 unfold laws_FnCertApply.f at h
 refine br_ite h rfl (fun c101 h => ?_) (fun c101 h => ?_)
 ·cases h; exact hk
 refine call_h N h (fun t0 e102 h => ?_)
 refine call_h N h (fun t1 e103 h => ?_)
 refine call_h N h (fun t2 e104 h => ?_)
 refine br_etn h rfl (fun c105 h => ?_) (fun c105 h => ?_)
 ·cases h; exact hk
 refine call_h N h (fun t3 e106 h => ?_)
 refine br_etn h (congrArg not dect) (fun c107 h => ?_) (fun c107 h => ?_)
 ·cases h; exact hk
 refine call_h N h (fun t4 e108 h => ?_)
 refine call_h N h (fun t5 e109 h => ?_)
 refine br_etn h (by first | rfl | exact dect | exact (congrArg not dect) | (simp; done) | (simp [beqI]; done) | (simp; omega)) (fun c110 h => ?_) (fun c110 h => ?_)
 ·cases h; exact hk
 refine call_h N h (fun t6 e111 h => ?_)
 refine call_h N h (fun t7 e112 h => ?_)
 refine br_etn h (by first | rfl | exact dect | exact (congrArg not dect) | (simp; done) | (simp [beqI]; done) | (simp; omega)) (fun c113 h => ?_) (fun c113 h => ?_)
 ·cases h; exact hk
 refine br_ite h rfl (fun c114 h => ?_) (fun c114 h => ?_)
 ·cases h; exact hk
 refine call_h N h (fun t8 e115 h => ?_)
 refine br_etn h (congrArg not dect) (fun c116 h => ?_) (fun c116 h => ?_)
 ·cases h; exact hk
 refine br_etn h rfl (fun c117 h => ?_) (fun c117 h => ?_)
 ·cases h; exact hk
 exact (L_8 N).1 _ _ _ _ _ _ _ _ _ _ _ _ _ _ _ _ _ h hk
end Go.Proofs.Ytkkmhlfpombgfaa.PFnCertApply
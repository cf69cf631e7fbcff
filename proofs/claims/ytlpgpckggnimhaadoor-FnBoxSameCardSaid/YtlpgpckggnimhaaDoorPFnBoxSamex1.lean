/- The machine's texts of FnBoxSame (links). Conditions: none. -/
import Derived.Test.YtlpgpckggnimhaaDoorPFnBoxSamex0
set_option linter.unusedVariables false
set_option linter.unusedSimpArgs false
set_option maxRecDepth 100000
set_option maxHeartbeats 4000000
namespace Go.Proofs.YtlpgpckggnimhaaDoor.PFnBoxSame
open Go.RowKit Go.Proofs.YtlpgpckggnimhaaDoorW.PrintWords Go.Proofs.YtlpgpckggnimhaaDoorW.PrintLast Go.Proofs.YtlpgpckggnimhaaDoorW.PrintMore
open Go Go.Proofs Am
noncomputable def C_59 : Ctr tau Unit := ctr0
theorem okC_59 : CtrOk Tryd.prog TT pnT C_59 := ctr0_ok
theorem mC_59 : CtrMono C_59 := ctr0_mono
theorem mc_59 (args : List (AV tau)) (m : Mem tau) (k k' : AV tau → Mem tau → Option Unit) (hk : ∀ av m, k av m = some () → k' av m = some ()) (h : c_59 args m k = some ()) : c_59 args m k' = some () := by
 unfold c_59 at h ⊢
 split at h
 · repeat' first | exact callX_mono (fun _ h => hk _ _ h) h | refine bO_mono (fun _ h => ?_) h
 · cases h
theorem okc_59 (args : List (AV tau)) (m : Mem tau) (κ : AV tau → Mem tau → Option Unit) (hh : c_59 args m κ = some ()) : ∃ av m1, κ av m1 = some () ∧ ToldA Tryd.prog TT (pnT 59) 59 args m av m1 := by
 obtain ⟨bx_, rw_⟩ := m
 unfold c_59 at hh
 simp only at hh
 split at hh
 case h_2 => cases hh
 rename_i b0 b1 r0
 obtain ⟨u0, hx0, hh0⟩ := bO_some hh
 obtain ⟨l0, hx1, hh1⟩ := bO_some hh0
 obtain ⟨a1, hx2, hh2⟩ := bO_some hh1
 have ex0 := asOwn_some hx0
 have ex1 := asRow_some hx1
 have ex2 := asS_some hx2
 subst ex0 ex1 ex2
 obtain ⟨N, t, h, hκ⟩ := callX_some hh2
 replace h : strings_Join.f N l0 a1 = some t := h
 refine ⟨_, _, hκ, ?_⟩
 unfold strings_Join.f at h
 split at h
 case isFalse => cases h
 rename_i hb
 cases h
 exact told_join (T := TT) (P := Tryd.prog) (e := 9) (xs := (l0 : List ByteArray)) (ys := l0) ⟨Tryd.f59, by kernel_rfl, by kernel_rfl, by kernel_rfl⟩ rfl rfl (fun j x y hx hy => by
   have := hx.symm.trans hy
   cases this; rfl) (fun hz w A c => by
   have hz' : l0 = [] := List.eq_nil_of_length_eq_zero hz
   subst hz'
   exact Any.strings_Join_none Tryd.lays156 Tryd.Builder_Extra_156 A c a1 w) (fun w g o c hc hg hle => Any.strings_Join Tryd.lays156 Tryd.Builder_Extra_156 g o c l0 a1 w hc hg hb.1 hle hb.2)
noncomputable def C_58 : Ctr tau Unit := ctrS 59 c_59 C_59
theorem okC_58 : CtrOk Tryd.prog TT pnT C_58 := ctrS_ok okC_59 okc_59
theorem mC_58 : CtrMono C_58 := ctrS_mono mC_59 mc_59
theorem mc_58 (args : List (AV tau)) (m : Mem tau) (k k' : AV tau → Mem tau → Option Unit) (hk : ∀ av m, k av m = some () → k' av m = some ()) (h : c_58 args m k = some ()) : c_58 args m k' = some () := by
 unfold c_58 at h ⊢
 split at h
 · repeat' first | exact callX_mono (fun _ h => hk _ _ h) h | refine bO_mono (fun _ h => ?_) h
 · cases h
theorem okc_58 (args : List (AV tau)) (m : Mem tau) (κ : AV tau → Mem tau → Option Unit) (hh : c_58 args m κ = some ()) : ∃ av m1, κ av m1 = some () ∧ ToldA Tryd.prog TT (pnT 58) 58 args m av m1 := by
 obtain ⟨bx_, rw_⟩ := m
 unfold c_58 at hh
 simp only at hh
 split at hh
 case h_2 => cases hh
 rename_i b0
 obtain ⟨a0, hx0, hh0⟩ := bO_some hh
 have ex0 := asI_some hx0
 subst ex0
 obtain ⟨N, t, h, hκ⟩ := callX_some hh0
 replace h : strconv_Itoa.f N a0 = some t := h
 refine ⟨_, _, hκ, ?_⟩
 unfold strconv_Itoa.f at h
 split at h
 case isFalse => cases h
 rename_i hb
 cases h
 exact told_num ⟨Tryd.f58, by kernel_rfl, by kernel_rfl, by kernel_rfl⟩ (fun w S hg => (Any.strconv_Itoa Tryd.laysM171 a0 hb.1 hb.2 w hg.2.2.2.2).mono fun e w' ⟨he, d, os, hw⟩ => ⟨he, hw ▸ below_grown w d os⟩)
noncomputable def C_66 : Ctr tau Unit := ctrS 58 c_58 C_58
noncomputable def D_66 : Drw tau := drawA E_66 C_66
theorem okC_66 : CtrOk Tryd.prog TT pnT C_66 := ctrS_ok okC_58 okc_58
theorem mC_66 : CtrMono C_66 := ctrS_mono mC_58 mc_58
theorem mD_66 : DrMono D_66 := drawA_mono mC_66
noncomputable def B_66 : Code := Tryd.f66.body.getD .skip
theorem mc_66 (args : List (AV tau)) (m : Mem tau) (k k' : AV tau → Mem tau → Option Unit) (hk : ∀ av m, k av m = some () → k' av m = some ()) (h : c_66 args m k = some ()) : c_66 args m k' = some () := by
 unfold c_66 at h ⊢
 split at h
 · repeat' first | exact callX_mono (fun _ h => hk _ _ h) h | refine bO_mono (fun _ h => ?_) h
 · cases h
noncomputable def K_66_0 (k : AV tau → Mem tau → Option Unit) : Kon tau := (kBlock 0 (kS E_66 C_66 D_66 (codeP B_66 [1, 1, 1]) (kEnd E_66 Tryd.f66 k)))
def st_66_0 (x0 : (List S70)) (x1 : (List S70)) (x2 : Int) (x3 : Int) : St tau := ⟨tmL 26 0 [(0, .sl 70 x0), (1, .sl 70 x1), (12, .int .i64 x2), (13, .int .i64 x3)], ⟨[], []⟩⟩
noncomputable def LP_66_0 (k : AV tau → Mem tau → Option Unit) (x0 : (List S70)) (x1 : (List S70)) (x2 : Int) (x3 : Int) : Option Unit := loopA E_66 (codeA E_66 C_66 D_66 (codeP B_66 [1, 1, 0, 1, 0, 0])) (codeP B_66 [1, 1, 0, 1, 0, 0]) (K_66_0 k) (st_66_0 x0 x1 x2 x3)
theorem w_66_0 (k : AV tau → Mem tau → Option Unit) (x0 : (List S70)) (x1 : (List S70)) (x2 : Int) (x3 : Int) : codeA E_66 C_66 D_66 (codeP B_66 [1, 1, 0, 1, 0, 0]) (kL E_66 C_66 D_66 (codeP B_66 [1, 1, 0, 1, 0, 0]) (K_66_0 k)) (st_66_0 x0 x1 x2 x3) = (brA (decide (x3 < x2)) (brA (decide ((0 : Int) ≤ x3)) (brA (decide (x3 < ((x0.length : Nat) : Int))) (brA (decide ((0 : Int) ≤ x3)) (brA (decide (x3 < ((x1.length : Nat) : Int))) (brA (!(((rd_T70 x0 x3).f0 == (rd_T70 x1 x3).f0) && ((rd_T70 x0 x3).f1 == (rd_T70 x1 x3).f1))) (k (.bool false) ⟨[], []⟩) (LP_66_0 k x0 x1 x2 (wrap64 (x3 + (1 : Int))))) (none)) (none)) (none)) (none)) (k (.bool true) ⟨[], []⟩) : Option Unit) := by
 simp only [← wrapA_i64]
 kernel_rfl
theorem w_66 (l0 : List S70) (l1 : List S70) (k : AV tau → Mem tau → Option Unit) : fnA E_66 C_66 D_66 Tryd.f66 B_66 [.sl 70 l0, .sl 70 l1] ⟨[], []⟩ k = (brA (!(decide (((l0.length : Nat) : Int) = ((l1.length : Nat) : Int)))) (k (.bool false) ⟨[], []⟩) (LP_66_0 k l0 l1 ((l0.length : Nat) : Int) (0 : Int)) : Option Unit) := by kernel_rfl
def S_66_0 (N : Nat) : Prop := ∀ (k : AV tau → Mem tau → Option Unit) (x0 : (List S70)) (x1 : (List S70)) (x2 : Int) (x3 : Int) (r : Bool), impl_same_impl_Box.l0 N (x0) (x1) (x2) (x3) = some r → k (.bool (r)) ⟨[], []⟩ = some () → LP_66_0 k x0 x1 x2 x3 = some ()
theorem L_66 (N : Nat) : S_66_0 N := by
 induction N using Nat.strongRecOn with | _ N0 ih =>
 skip
 intro k x0 x1 x2 x3 r h hk
 rcases N0 with _ | N
 · cases h
 first | rw [impl_same_impl_Box.l0] at h | simp only [impl_same_impl_Box.l0] at h | (unfold impl_same_impl_Box.l0 at h; dsimp only at h)
 refine loop_fold mC_66 mD_66 ?_
 refine (w_66_0 k x0 x1 x2 x3).trans ?_
 refine br_eti h rfl (fun c13 h => ?_) (fun c13 h => ?_)
 ·cases h; exact hk
 refine br_g h rfl (fun c14 h => ?_)
 refine br_g h rfl (fun c15 h => ?_)
 refine br_t (by first | (simp [c14]; done) | (simp; omega) | (simp only [List.length_append, List.length_cons, List.length_nil, List.length_take, List.length_drop] at c15 ⊢; simp; omega) | (simp only [List.length_append, List.length_cons, List.length_nil, List.length_take, List.length_drop] at c15; simp; omega) | (simp_all; done)) ?_
 refine br_g h rfl (fun c16 h => ?_)
 refine br_ite h (by first | rfl | exact dect | exact (congrArg not dect) | (simp; done) | (simp [beqI]; done) | (simp; omega)) (fun c17 h => ?_) (fun c17 h => ?_)
 ·cases h; exact hk
 exact (ih N (by omega)) _ _ _ _ _ _ h hk
theorem okc_66 (args : List (AV tau)) (m : Mem tau) (κ : AV tau → Mem tau → Option Unit) (hh : c_66 args m κ = some ()) : ∃ av m1, κ av m1 = some () ∧ ToldA Tryd.prog TT (pnT 66) 66 args m av m1 := by
 obtain ⟨bx_, rw_⟩ := m
 unfold c_66 at hh
 simp only at hh
 split at hh
 case h_2 => cases hh
 rename_i b0 b1
 obtain ⟨l0, hx0, hh0⟩ := bO_some hh
 obtain ⟨l1, hx1, hh1⟩ := bO_some hh0
 have ex0 := asSl_some hx0
 have ex1 := asSl_some hx1
 subst ex0 ex1
 obtain ⟨N, t, h, hκ⟩ := callX_some hh1
 refine ⟨_, _, hκ, told_of_run pq okC_66 (fun _ _ _ => drawA_ok pq okC_66 hmix) (E := E_66) (fn := Tryd.f66) (body := B_66) (by kernel_rfl) (by kernel_rfl) (by kernel_rfl) (by rfl) (by exact Nat.le_of_ble_eq_true rfl) (fun k hk => ?_)⟩
 refine (w_66 l0 l1 k).trans ?_
 replace h : impl_same_impl_Box.f N l0 l1 = some t := h
 unfold impl_same_impl_Box.f at h
 refine br_etn h rfl (fun c18 h => ?_) (fun c18 h => ?_)
 ·cases h; exact hk
 exact (L_66 N) _ _ _ _ _ _ h hk
noncomputable def C_22 : Ctr tau Unit := ctrS 66 c_66 C_66
noncomputable def D_22 : Drw tau := drawA E_22 C_22
theorem okC_22 : CtrOk Tryd.prog TT pnT C_22 := ctrS_ok okC_66 okc_66
theorem mC_22 : CtrMono C_22 := ctrS_mono mC_66 mc_66
theorem mD_22 : DrMono D_22 := drawA_mono mC_22
noncomputable def B_22 : Code := Tryd.f22.body.getD .skip
theorem mc_22 (args : List (AV tau)) (m : Mem tau) (k k' : AV tau → Mem tau → Option Unit) (hk : ∀ av m, k av m = some () → k' av m = some ()) (h : c_22 args m k = some ()) : c_22 args m k' = some () := by
 unfold c_22 at h ⊢
 split at h
 · repeat' first | exact callX_mono (fun _ h => hk _ _ h) h | refine bO_mono (fun _ h => ?_) h
 · cases h
theorem w_22 (l0 : List S70) (l1 : List S70) (k : AV tau → Mem tau → Option Unit) : fnA E_22 C_22 D_22 Tryd.f22 B_22 [.sl 70 l0, .sl 70 l1] ⟨[], []⟩ k = (callX (fun n => impl_same_impl_Box.f n l0 l1) fun t0 => k (.bool t0) ⟨[], []⟩ : Option Unit) := by kernel_rfl
theorem okc_22 (args : List (AV tau)) (m : Mem tau) (κ : AV tau → Mem tau → Option Unit) (hh : c_22 args m κ = some ()) : ∃ av m1, κ av m1 = some () ∧ ToldA Tryd.prog TT (pnT 22) 22 args m av m1 := by
 obtain ⟨bx_, rw_⟩ := m
 unfold c_22 at hh
 simp only at hh
 split at hh
 case h_2 => cases hh
 rename_i b0 b1
 obtain ⟨l0, hx0, hh0⟩ := bO_some hh
 obtain ⟨l1, hx1, hh1⟩ := bO_some hh0
 have ex0 := asSl_some hx0
 have ex1 := asSl_some hx1
 subst ex0 ex1
 obtain ⟨N, t, h, hκ⟩ := callX_some hh1
 refine ⟨_, _, hκ, told_of_run pq okC_22 (fun _ _ _ => drawA_ok pq okC_22 hmix) (E := E_22) (fn := Tryd.f22) (body := B_22) (by kernel_rfl) (by kernel_rfl) (by kernel_rfl) (by rfl) (by exact Nat.le_of_ble_eq_true rfl) (fun k hk => ?_)⟩
 refine (w_22 l0 l1 k).trans ?_
 replace h : impl_BoxSame.f N l0 l1 = some t := h
 unfold impl_BoxSame.f at h
 refine call_h N h (fun t0 e2 h => ?_)
 cases h; exact hk
noncomputable def C_67 : Ctr tau Unit := ctrS 22 c_22 C_22
noncomputable def D_67 : Drw tau := drawA E_67 C_67
theorem okC_67 : CtrOk Tryd.prog TT pnT C_67 := ctrS_ok okC_22 okc_22
theorem mC_67 : CtrMono C_67 := ctrS_mono mC_22 mc_22
theorem mD_67 : DrMono D_67 := drawA_mono mC_67
noncomputable def B_67 : Code := Tryd.f67.body.getD .skip
theorem mc_67 (args : List (AV tau)) (m : Mem tau) (k k' : AV tau → Mem tau → Option Unit) (hk : ∀ av m, k av m = some () → k' av m = some ()) (h : c_67 args m k = some ()) : c_67 args m k' = some () := by
 unfold c_67 at h ⊢
 split at h
 · repeat' first | exact callX_mono (fun _ h => hk _ _ h) h | refine bO_mono (fun _ h => ?_) h
 · cases h
theorem w_67 (s0_0 : List Int) (s0_1 : Int) (a1 : Int) (k : AV tau → Mem tau → Option Unit) : fnA E_67 C_67 D_67 Tryd.f67 B_67 [.ptr 0 0, .int .i64 a1] ⟨[some (98, [.sl 5 s0_0, .int .i64 s0_1])], []⟩ k = (brA (decide (a1 < (1 : Int))) (k (.int .i64 (0 : Int)) ⟨[some (98, [.sl 5 s0_0, .int .i64 (wrap64 (s0_1 + (1 : Int)))])], []⟩) (brA (decide (((s0_0.length : Nat) : Int) = (0 : Int))) (k (.int .i64 (0 : Int)) ⟨[some (98, [.sl 5 s0_0, .int .i64 (wrap64 (s0_1 + (1 : Int)))])], []⟩) (brA (decide ((wrap64 ((wrap64 (s0_1 + (1 : Int))) - (1 : Int))) < ((s0_0.length : Nat) : Int))) (brA (decide ((0 : Int) ≤ (wrap64 ((wrap64 (s0_1 + (1 : Int))) - (1 : Int))))) (brA (decide ((wrap64 ((wrap64 (s0_1 + (1 : Int))) - (1 : Int))) < ((s0_0.length : Nat) : Int))) (brA (!(decide (a1 = (0 : Int)))) (k (.int .i64 (Int.tmod (wrap64 (rd s0_0 (wrap64 ((wrap64 (s0_1 + (1 : Int))) - (1 : Int))))) a1)) ⟨[some (98, [.sl 5 s0_0, .int .i64 (wrap64 (s0_1 + (1 : Int)))])], []⟩) (none)) (none)) (none)) (brA (!(decide (((s0_0.length : Nat) : Int) = (0 : Int)))) (brA (decide ((0 : Int) ≤ (Int.tmod (wrap64 ((wrap64 (s0_1 + (1 : Int))) - (1 : Int))) ((s0_0.length : Nat) : Int)))) (brA (decide ((Int.tmod (wrap64 ((wrap64 (s0_1 + (1 : Int))) - (1 : Int))) ((s0_0.length : Nat) : Int)) < ((s0_0.length : Nat) : Int))) (brA (!(decide (((s0_0.length : Nat) : Int) = (0 : Int)))) (brA (decide ((0 : Int) ≤ (Int.tmod (wrap64 ((wrap64 ((wrap64 ((wrap64 (s0_1 + (1 : Int))) - (1 : Int))) * (7 : Int))) + (3 : Int))) ((s0_0.length : Nat) : Int)))) (brA (decide ((Int.tmod (wrap64 ((wrap64 ((wrap64 ((wrap64 (s0_1 + (1 : Int))) - (1 : Int))) * (7 : Int))) + (3 : Int))) ((s0_0.length : Nat) : Int)) < ((s0_0.length : Nat) : Int))) (brA (!(decide (((s0_0.length : Nat) : Int) = (0 : Int)))) (brA (!(decide (a1 = (0 : Int)))) (k (.int .i64 (Int.tmod (Go.bits .xor .i64 (wrap64 ((wrap64 ((wrap64 ((wrap64 ((wrap64 (rd s0_0 (Int.tmod (wrap64 ((wrap64 (s0_1 + (1 : Int))) - (1 : Int))) ((s0_0.length : Nat) : Int)))) * (131 : Int))) + (wrap64 ((wrap64 (rd s0_0 (Int.tmod (wrap64 ((wrap64 ((wrap64 ((wrap64 (s0_1 + (1 : Int))) - (1 : Int))) * (7 : Int))) + (3 : Int))) ((s0_0.length : Nat) : Int)))) * (1117 : Int))))) + (wrap64 ((wrap64 ((wrap64 (s0_1 + (1 : Int))) - (1 : Int))) * (29 : Int))))) + (wrap64 ((wrap64 (Int.tdiv (wrap64 ((wrap64 (s0_1 + (1 : Int))) - (1 : Int))) ((s0_0.length : Nat) : Int))) * (53 : Int))))) (wrap64 (Int.tdiv (wrap64 ((wrap64 ((wrap64 ((wrap64 ((wrap64 (rd s0_0 (Int.tmod (wrap64 ((wrap64 (s0_1 + (1 : Int))) - (1 : Int))) ((s0_0.length : Nat) : Int)))) * (131 : Int))) + (wrap64 ((wrap64 (rd s0_0 (Int.tmod (wrap64 ((wrap64 ((wrap64 ((wrap64 (s0_1 + (1 : Int))) - (1 : Int))) * (7 : Int))) + (3 : Int))) ((s0_0.length : Nat) : Int)))) * (1117 : Int))))) + (wrap64 ((wrap64 ((wrap64 (s0_1 + (1 : Int))) - (1 : Int))) * (29 : Int))))) + (wrap64 ((wrap64 (Int.tdiv (wrap64 ((wrap64 (s0_1 + (1 : Int))) - (1 : Int))) ((s0_0.length : Nat) : Int))) * (53 : Int))))) (64 : Int)))) a1)) ⟨[some (98, [.sl 5 s0_0, .int .i64 (wrap64 (s0_1 + (1 : Int)))])], []⟩) (none)) (none)) (none)) (none)) (none)) (none)) (none)) (none)))) : Option Unit) := by
 simp only [← wrapA_i64]
 kernel_rfl
theorem okc_67 (args : List (AV tau)) (m : Mem tau) (κ : AV tau → Mem tau → Option Unit) (hh : c_67 args m κ = some ()) : ∃ av m1, κ av m1 = some () ∧ ToldA Tryd.prog TT (pnT 67) 67 args m av m1 := by
 obtain ⟨bx_, rw_⟩ := m
 unfold c_67 at hh
 simp only at hh
 split at hh
 case h_2 => cases hh
 rename_i p0 b0 t0_ c0_0 c0_1
 obtain ⟨u12, hx0, hh0⟩ := bO_some hh
 obtain ⟨u13, hx1, hh1⟩ := bO_some hh0
 obtain ⟨s0_0, hx2, hh2⟩ := bO_some hh1
 obtain ⟨s0_1, hx3, hh3⟩ := bO_some hh2
 obtain ⟨a1, hx4, hh4⟩ := bO_some hh3
 have ex0 := asPtr_some hx0
 have ex1 := asT_some hx1
 have ex2 := asSl_some hx2
 have ex3 := asI_some hx3
 have ex4 := asI_some hx4
 subst ex0 ex1 ex2 ex3 ex4
 obtain ⟨N, t, h, hκ⟩ := callX_some hh4
 refine ⟨_, _, hκ, told_of_run pq okC_67 (fun _ _ _ => drawA_ok pq okC_67 hmix) (E := E_67) (fn := Tryd.f67) (body := B_67) (by kernel_rfl) (by kernel_rfl) (by kernel_rfl) (by rfl) (by exact Nat.le_of_ble_eq_true rfl) (fun k hk => ?_)⟩
 refine (w_67 s0_0 s0_1 a1 k).trans ?_
 replace h : spec_l15Rd_pick.f N s0_0 s0_1 a1 = some t := h
 unfold spec_l15Rd_pick.f at h
 refine br_ite h rfl (fun c14 h => ?_) (fun c14 h => ?_)
 ·rcases N with _ | N
  · cases h
  first | rw [spec_l15Rd_pick.j0] at h | simp only [spec_l15Rd_pick.j0] at h | (unfold spec_l15Rd_pick.j0 at h; dsimp only at h)
  replace h := ite_t h (by first | assumption | omega | simp_all)
  cases h; exact hk
 rcases N with _ | N
 · cases h
 first | rw [spec_l15Rd_pick.j0] at h | simp only [spec_l15Rd_pick.j0] at h | (unfold spec_l15Rd_pick.j0 at h; dsimp only at h)
 refine br_ite h (by first | rfl | exact dect | exact (congrArg not dect) | (simp; done) | (simp [beqI]; done) | (simp; omega)) (fun c15 h => ?_) (fun c15 h => ?_)
 ·cases h; exact hk
 refine br_ite h rfl (fun c16 h => ?_) (fun c16 h => ?_)
 ·refine br_g h rfl (fun c17 h => ?_)
  refine br_t (by first | (simp [c16]; done) | (simp; omega) | (simp only [List.length_append, List.length_cons, List.length_nil, List.length_take, List.length_drop] at c16 c15 ⊢; simp; omega) | (simp only [List.length_append, List.length_cons, List.length_nil, List.length_take, List.length_drop] at c16 c15; simp; omega) | (simp_all; done)) ?_
  refine br_nn h rfl (fun c18 h => ?_)
  cases h; exact hk
 refine br_nn h rfl (fun c19 h => ?_)
 refine br_g h rfl (fun c20 h => ?_)
 refine br_g h rfl (fun c21 h => ?_)
 refine br_t (by first | (simp [c19]; done) | (simp; omega) | (simp only [List.length_append, List.length_cons, List.length_nil, List.length_take, List.length_drop] at c21 c20 c19 c16 c15 ⊢; simp; omega) | (simp only [List.length_append, List.length_cons, List.length_nil, List.length_take, List.length_drop] at c21 c20 c19 c16 c15; simp; omega) | (simp_all; done)) ?_
 refine br_g h rfl (fun c22 h => ?_)
 refine br_g h rfl (fun c23 h => ?_)
 refine br_t (by first | (simp [c19]; done) | (simp; omega) | (simp only [List.length_append, List.length_cons, List.length_nil, List.length_take, List.length_drop] at c23 c22 c21 c20 c19 ⊢; simp; omega) | (simp only [List.length_append, List.length_cons, List.length_nil, List.length_take, List.length_drop] at c23 c22 c21 c20 c19; simp; omega) | (simp_all; done)) ?_
 refine br_nn h rfl (fun c24 h => ?_)
 cases h; exact hk
noncomputable def C_84 : Ctr tau Unit := ctrS 67 c_67 C_67
noncomputable def D_84 : Drw tau := drawA E_84 C_84
theorem okC_84 : CtrOk Tryd.prog TT pnT C_84 := ctrS_ok okC_67 okc_67
theorem mC_84 : CtrMono C_84 := ctrS_mono mC_67 mc_67
theorem mD_84 : DrMono D_84 := drawA_mono mC_84
noncomputable def B_84 : Code := Tryd.f84.body.getD .skip
theorem mc_84 (args : List (AV tau)) (m : Mem tau) (k k' : AV tau → Mem tau → Option Unit) (hk : ∀ av m, k av m = some () → k' av m = some ()) (h : c_84 args m k = some ()) : c_84 args m k' = some () := by
 unfold c_84 at h ⊢
 split at h
 · repeat' first | exact callX_mono (fun _ h => hk _ _ h) h | refine bO_mono (fun _ h => ?_) h
 · cases h
theorem w_84  (k : AV tau → Mem tau → Option Unit) : fnA E_84 C_84 D_84 Tryd.f84 B_84 [] ⟨[], []⟩ k = (k (.own 0 0) ⟨[], [some ⟨70, ([(⟨(0 : Int), (0 : Int)⟩ : S70), (⟨(0 : Int), (0 : Int)⟩ : S70), (⟨(0 : Int), (0 : Int)⟩ : S70), (⟨(0 : Int), (0 : Int)⟩ : S70)] : List S70), 0⟩]⟩ : Option Unit) := by kernel_rfl
theorem okc_84 (args : List (AV tau)) (m : Mem tau) (κ : AV tau → Mem tau → Option Unit) (hh : c_84 args m κ = some ()) : ∃ av m1, κ av m1 = some () ∧ ToldA Tryd.prog TT (pnT 84) 84 args m av m1 := by
 obtain ⟨bx_, rw_⟩ := m
 unfold c_84 at hh
 simp only at hh
 split at hh
 case h_2 => cases hh
 obtain ⟨N, t, h, hκ⟩ := callX_some hh
 refine ⟨_, _, hκ, told_of_run pq okC_84 (fun _ _ _ => drawA_ok pq okC_84 hmix) (E := E_84) (fn := Tryd.f84) (body := B_84) (by kernel_rfl) (by kernel_rfl) (by kernel_rfl) (by rfl) (by exact Nat.le_of_ble_eq_true rfl) (fun k hk => ?_)⟩
 refine (w_84 k).trans ?_
 replace h : spec_BoxOpen.f = some t := h
 unfold spec_BoxOpen.f at h
 replace h := ite_t h (by first | assumption | omega | simp_all)
 cases h; exact hk
noncomputable def C_85 : Ctr tau Unit := ctrS 84 c_84 C_84
noncomputable def D_85 : Drw tau := drawA E_85 C_85
theorem okC_85 : CtrOk Tryd.prog TT pnT C_85 := ctrS_ok okC_84 okc_84
theorem mC_85 : CtrMono C_85 := ctrS_mono mC_84 mc_84
theorem mD_85 : DrMono D_85 := drawA_mono mC_85
noncomputable def B_85 : Code := Tryd.f85.body.getD .skip
theorem mc_85 (args : List (AV tau)) (m : Mem tau) (k k' : AV tau → Mem tau → Option Unit) (hk : ∀ av m, k av m = some () → k' av m = some ()) (h : c_85 args m k = some ()) : c_85 args m k' = some () := by
 unfold c_85 at h ⊢
 split at h
 · repeat' first | exact callX_mono (fun _ h => hk _ _ h) h | refine bO_mono (fun _ h => ?_) h
 · cases h
theorem w_85 (s0_0 : List Int) (s0_1 : Int) (l1 : List Int) (k : AV tau → Mem tau → Option Unit) : fnA E_85 C_85 D_85 Tryd.f85 B_85 [.ptr 0 0, .own 0 0] ⟨[some (98, [.sl 5 s0_0, .int .i64 s0_1])], [some ⟨3, l1, 0⟩]⟩ k = (callX (fun n => spec_l15Rd_pick.f n s0_0 s0_1 ((l1.length : Nat) : Int)) fun t0 => brA (decide ((0 : Int) ≤ t0.1)) (brA (decide (t0.1 < ((l1.length : Nat) : Int))) (k (.int .i64 (rd l1 t0.1)) ⟨[some (98, [.sl 5 s0_0, .int .i64 t0.2])], [some ⟨3, l1, 0⟩]⟩) (none)) (none) : Option Unit) := by kernel_rfl
theorem okc_85 (args : List (AV tau)) (m : Mem tau) (κ : AV tau → Mem tau → Option Unit) (hh : c_85 args m κ = some ()) : ∃ av m1, κ av m1 = some () ∧ ToldA Tryd.prog TT (pnT 85) 85 args m av m1 := by
 obtain ⟨bx_, rw_⟩ := m
 unfold c_85 at hh
 simp only at hh
 split at hh
 case h_2 => cases hh
 rename_i p0 b0 t0_ c0_0 c0_1 r0
 obtain ⟨u4, hx0, hh0⟩ := bO_some hh
 obtain ⟨u5, hx1, hh1⟩ := bO_some hh0
 obtain ⟨s0_0, hx2, hh2⟩ := bO_some hh1
 obtain ⟨s0_1, hx3, hh3⟩ := bO_some hh2
 obtain ⟨u6, hx4, hh4⟩ := bO_some hh3
 obtain ⟨l1, hx5, hh5⟩ := bO_some hh4
 have ex0 := asPtr_some hx0
 have ex1 := asT_some hx1
 have ex2 := asSl_some hx2
 have ex3 := asI_some hx3
 have ex4 := asOwn_some hx4
 have ex5 := asRow_some hx5
 subst ex0 ex1 ex2 ex3 ex4 ex5
 obtain ⟨N, t, h, hκ⟩ := callX_some hh5
 refine ⟨_, _, hκ, told_of_run pq okC_85 (fun _ _ _ => drawA_ok pq okC_85 hmix) (E := E_85) (fn := Tryd.f85) (body := B_85) (by kernel_rfl) (by kernel_rfl) (by kernel_rfl) (by rfl) (by exact Nat.le_of_ble_eq_true rfl) (fun k hk => ?_)⟩
 refine (w_85 s0_0 s0_1 l1 k).trans ?_
 replace h : spec_l15Rd_num.f N s0_0 s0_1 l1 = some t := h
 unfold spec_l15Rd_num.f at h
 refine call_h N h (fun t0 e7 h => ?_)
 refine br_g h rfl (fun c8 h => ?_)
 refine br_g h rfl (fun c9 h => ?_)
 cases h; exact hk
noncomputable def C_56 : Ctr tau Unit := ctrS 85 c_85 C_85
noncomputable def D_56 : Drw tau := drawA E_56 C_56
theorem okC_56 : CtrOk Tryd.prog TT pnT C_56 := ctrS_ok okC_85 okc_85
theorem mC_56 : CtrMono C_56 := ctrS_mono mC_85 mc_85
theorem mD_56 : DrMono D_56 := drawA_mono mC_56
noncomputable def B_56 : Code := Tryd.f56.body.getD .skip
theorem mc_56 (args : List (AV tau)) (m : Mem tau) (k k' : AV tau → Mem tau → Option Unit) (hk : ∀ av m, k av m = some () → k' av m = some ()) (h : c_56 args m k = some ()) : c_56 args m k' = some () := by
 unfold c_56 at h ⊢
 split at h
 · repeat' first | exact callX_mono (fun _ h => hk _ _ h) h | refine bO_mono (fun _ h => ?_) h
 · cases h
noncomputable def K_56_0 (k : AV tau → Mem tau → Option Unit) : Kon tau := (kBlock 0 (kS E_56 C_56 D_56 (codeP B_56 [1, 1, 1]) (kEnd E_56 Tryd.f56 k)))
def st_56_0 (x0 : Int) (x1 : (List Int)) (x2 : Int) (x3 : (List S70)) : St tau := ⟨tmL 48 0 [(0, .ptr 0 0), (3, .own 0 0), (4, .int .i64 x0)], ⟨[some (98, [.sl 5 x1, .int .i64 x2])], [some ⟨70, x3, 0⟩]⟩⟩
noncomputable def LP_56_0 (k : AV tau → Mem tau → Option Unit) (x0 : Int) (x1 : (List Int)) (x2 : Int) (x3 : (List S70)) : Option Unit := loopA E_56 (codeA E_56 C_56 D_56 (codeP B_56 [1, 1, 0, 1, 0, 0])) (codeP B_56 [1, 1, 0, 1, 0, 0]) (K_56_0 k) (st_56_0 x0 x1 x2 x3)
theorem w_56_0 (k : AV tau → Mem tau → Option Unit) (x0 : Int) (x1 : (List Int)) (x2 : Int) (x3 : (List S70)) : codeA E_56 C_56 D_56 (codeP B_56 [1, 1, 0, 1, 0, 0]) (kL E_56 C_56 D_56 (codeP B_56 [1, 1, 0, 1, 0, 0]) (K_56_0 k)) (st_56_0 x0 x1 x2 x3) = (brA (decide (x0 < ((x3.length : Nat) : Int))) (callX (fun n => spec_l15Rd_pick.f n x1 x2 (5 : Int)) fun t1 => callX (fun n => spec_l15Rd_num.f n x1 t1.2 ([(0 : Int), (1 : Int), (2 : Int), (5 : Int), (-(3 : Int)), (7 : Int), (100 : Int), (1000000 : Int), (-(1000000 : Int))] : List Int)) fun t2 => brA (decide ((0 : Int) ≤ x0)) (brA (decide (x0 < ((x3.length : Nat) : Int))) (LP_56_0 k (wrap64 (x0 + (1 : Int))) x1 t2.2 (List.set x3 (Int.toNat x0) (⟨t1.1, t2.1⟩ : S70))) (none)) (none)) (callX (fun n => spec_l15Rd_pick.f n x1 x2 (30 : Int)) fun t3 => brA (decide (t3.1 = (0 : Int))) (brA (decide ((3 : Int) ≤ ((x3.length : Nat) : Int))) (k (.own 0 0) ⟨[some (98, [.sl 5 x1, .int .i64 t3.2])], [some ⟨70, (List.take 3 x3), 0⟩]⟩) (none)) (brA (decide (t3.1 = (1 : Int))) (callX (fun n => spec_l15Rd_pick.f n x1 t3.2 (4 : Int)) fun t4 => callX (fun n => spec_l15Rd_num.f n x1 t4.2 ([(-(1 : Int)), (1000001 : Int)] : List Int)) fun t5 => brA (decide ((0 : Int) ≤ t4.1)) (brA (decide (t4.1 < ((x3.length : Nat) : Int))) (k (.own 0 0) ⟨[some (98, [.sl 5 x1, .int .i64 t5.2])], [some ⟨70, (List.set x3 (Int.toNat t4.1) (⟨t5.1, (rd_T70 x3 t4.1).f1⟩ : S70)), 0⟩]⟩) (none)) (none)) (brA (decide (t3.1 = (2 : Int))) (callX (fun n => spec_l15Rd_pick.f n x1 t3.2 (4 : Int)) fun t6 => callX (fun n => spec_l15Rd_num.f n x1 t6.2 ([(1000001 : Int), (-(1000001 : Int))] : List Int)) fun t7 => brA (decide ((0 : Int) ≤ t6.1)) (brA (decide (t6.1 < ((x3.length : Nat) : Int))) (k (.own 0 0) ⟨[some (98, [.sl 5 x1, .int .i64 t7.2])], [some ⟨70, (List.set x3 (Int.toNat t6.1) (⟨(rd_T70 x3 t6.1).f0, t7.1⟩ : S70)), 0⟩]⟩) (none)) (none)) (k (.own 0 0) ⟨[some (98, [.sl 5 x1, .int .i64 t3.2])], [some ⟨70, x3, 0⟩]⟩)))) : Option Unit) := by
 simp only [← wrapA_i64]
 kernel_rfl
theorem w_56 (s0_0 : List Int) (s0_1 : Int) (k : AV tau → Mem tau → Option Unit) : fnA E_56 C_56 D_56 Tryd.f56 B_56 [.ptr 0 0] ⟨[some (98, [.sl 5 s0_0, .int .i64 s0_1])], []⟩ k = (callX (fun n => spec_BoxOpen.f ) fun t0 => LP_56_0 k (0 : Int) s0_0 s0_1 t0 : Option Unit) := by kernel_rfl
def S_56_0 (N : Nat) : Prop := ∀ (k : AV tau → Mem tau → Option Unit) (x0 : Int) (x1 : (List Int)) (x2 : Int) (x3 : (List S70)) (r : (List (S70)) × Int), spec_l1Boxes.l0 N (x3) (x0) (x1) (x2) = some r → k (.own 0 0) ⟨[some (98, [.sl 5 ((x1)), .int .i64 (r.2)])], [some ⟨70, r.1, 0⟩]⟩ = some () → LP_56_0 k x0 x1 x2 x3 = some ()
theorem L_56 (N : Nat) : S_56_0 N := by
 induction N using Nat.strongRecOn with | _ N0 ih =>
 skip
 intro k x0 x1 x2 x3 r h hk
 rcases N0 with _ | N
 · cases h
 first | rw [spec_l1Boxes.l0] at h | simp only [spec_l1Boxes.l0] at h | (unfold spec_l1Boxes.l0 at h; dsimp only at h)
 refine loop_fold mC_56 mD_56 ?_
 refine (w_56_0 k x0 x1 x2 x3).trans ?_
 refine br_ite h rfl (fun c37 h => ?_) (fun c37 h => ?_)
 ·refine call_h N h (fun t1 e38 h => ?_)
  refine call_h N h (fun t2 e39 h => ?_)
  refine br_g h rfl (fun c40 h => ?_)
  refine br_t (by first | (simp [c37]; done) | (simp; omega) | (simp only [List.length_append, List.length_cons, List.length_nil, List.length_take, List.length_drop] at c37 ⊢; simp; omega) | (simp only [List.length_append, List.length_cons, List.length_nil, List.length_take, List.length_drop] at c37; simp; omega) | (simp_all; done)) ?_
  exact (ih N (by omega)) _ _ _ _ _ _ h hk
 refine call_h N h (fun t3 e41 h => ?_)
 refine br_ite h rfl (fun c42 h => ?_) (fun c42 h => ?_)
 ·refine br_g h rfl (fun c43 h => ?_)
  cases h; exact hk
 refine br_ite h rfl (fun c44 h => ?_) (fun c44 h => ?_)
 ·refine call_h N h (fun t4 e45 h => ?_)
  refine call_h N h (fun t5 e46 h => ?_)
  refine br_g h rfl (fun c47 h => ?_)
  refine br_g h rfl (fun c48 h => ?_)
  cases h; exact hk
 refine br_eti h rfl (fun c49 h => ?_) (fun c49 h => ?_)
 ·cases h; exact hk
 refine call_h N h (fun t6 e50 h => ?_)
 refine call_h N h (fun t7 e51 h => ?_)
 refine br_g h rfl (fun c52 h => ?_)
 refine br_g h rfl (fun c53 h => ?_)
 cases h; exact hk
theorem okc_56 (args : List (AV tau)) (m : Mem tau) (κ : AV tau → Mem tau → Option Unit) (hh : c_56 args m κ = some ()) : ∃ av m1, κ av m1 = some () ∧ ToldA Tryd.prog TT (pnT 56) 56 args m av m1 := by
 obtain ⟨bx_, rw_⟩ := m
 unfold c_56 at hh
 simp only at hh
 split at hh
 case h_2 => cases hh
 rename_i p0 t0_ c0_0 c0_1
 obtain ⟨u54, hx0, hh0⟩ := bO_some hh
 obtain ⟨u55, hx1, hh1⟩ := bO_some hh0
 obtain ⟨s0_0, hx2, hh2⟩ := bO_some hh1
 obtain ⟨s0_1, hx3, hh3⟩ := bO_some hh2
 have ex0 := asPtr_some hx0
 have ex1 := asT_some hx1
 have ex2 := asSl_some hx2
 have ex3 := asI_some hx3
 subst ex0 ex1 ex2 ex3
 obtain ⟨N, t, h, hκ⟩ := callX_some hh3
 refine ⟨_, _, hκ, told_of_run pq okC_56 (fun _ _ _ => drawA_ok pq okC_56 hmix) (E := E_56) (fn := Tryd.f56) (body := B_56) (by kernel_rfl) (by kernel_rfl) (by kernel_rfl) (by rfl) (by exact Nat.le_of_ble_eq_true rfl) (fun k hk => ?_)⟩
 refine (w_56 s0_0 s0_1 k).trans ?_
 replace h : spec_l1Boxes.f N s0_0 s0_1 = some t := h
 unfold spec_l1Boxes.f at h
 refine call_h 0 h (fun t0 e56 h => ?_)
 exact (L_56 N) _ _ _ _ _ _ h hk
noncomputable def C_57 : Ctr tau Unit := ctrS 56 c_56 C_56
noncomputable def D_57 : Drw tau := drawA E_57 C_57
theorem okC_57 : CtrOk Tryd.prog TT pnT C_57 := ctrS_ok okC_56 okc_56
theorem mC_57 : CtrMono C_57 := ctrS_mono mC_56 mc_56
theorem mD_57 : DrMono D_57 := drawA_mono mC_57
noncomputable def B_57 : Code := Tryd.f57.body.getD .skip
theorem mc_57 (args : List (AV tau)) (m : Mem tau) (k k' : AV tau → Mem tau → Option Unit) (hk : ∀ av m, k av m = some () → k' av m = some ()) (h : c_57 args m k = some ()) : c_57 args m k' = some () := by
 unfold c_57 at h ⊢
 split at h
 · repeat' first | exact callX_mono (fun _ h => hk _ _ h) h | refine bO_mono (fun _ h => ?_) h
 · cases h
theorem w_57 (l0 : List Int) (k : AV tau → Mem tau → Option Unit) : fnA E_57 C_57 D_57 Tryd.f57 B_57 [.sl 5 l0] ⟨[], []⟩ k = (brA (decide (((l0.length : Nat) : Int) > (2000 : Int))) (brA (decide ((2000 : Int) ≤ ((l0.length : Nat) : Int))) (k (.ptr 0 0) ⟨[some (98, [.sl 5 (List.take 2000 l0), .int .i64 (0 : Int)])], []⟩) (none)) (k (.ptr 0 0) ⟨[some (98, [.sl 5 l0, .int .i64 (0 : Int)])], []⟩) : Option Unit) := by kernel_rfl
theorem okc_57 (args : List (AV tau)) (m : Mem tau) (κ : AV tau → Mem tau → Option Unit) (hh : c_57 args m κ = some ()) : ∃ av m1, κ av m1 = some () ∧ ToldA Tryd.prog TT (pnT 57) 57 args m av m1 := by
 obtain ⟨bx_, rw_⟩ := m
 unfold c_57 at hh
 simp only at hh
 split at hh
 case h_2 => cases hh
 rename_i b0
 obtain ⟨l0, hx0, hh0⟩ := bO_some hh
 have ex0 := asSl_some hx0
 subst ex0
 obtain ⟨N, t, h, hκ⟩ := callX_some hh0
 refine ⟨_, _, hκ, told_of_run pq okC_57 (fun _ _ _ => drawA_ok pq okC_57 hmix) (E := E_57) (fn := Tryd.f57) (body := B_57) (by kernel_rfl) (by kernel_rfl) (by kernel_rfl) (by rfl) (by exact Nat.le_of_ble_eq_true rfl) (fun k hk => ?_)⟩
 refine (w_57 l0 k).trans ?_
 replace h : spec_l15Open.f l0 = some t := h
 unfold spec_l15Open.f at h
 refine br_eti h rfl (fun c3 h => ?_) (fun c3 h => ?_)
 ·cases h; exact hk
 refine br_g h rfl (fun c4 h => ?_)
 cases h; exact hk
noncomputable def C_41 : Ctr tau Unit := ctrS 57 c_57 C_57
noncomputable def D_41 : Drw tau := drawA E_41 C_41
theorem okC_41 : CtrOk Tryd.prog TT pnT C_41 := ctrS_ok okC_57 okc_57
theorem mC_41 : CtrMono C_41 := ctrS_mono mC_57 mc_57
theorem mD_41 : DrMono D_41 := drawA_mono mC_41
noncomputable def B_41 : Code := Tryd.f41.body.getD .skip
theorem mc_41 (args : List (AV tau)) (m : Mem tau) (k k' : AV tau → Mem tau → Option Unit) (hk : ∀ av m, k av m = some () → k' av m = some ()) (h : c_41 args m k = some ()) : c_41 args m k' = some () := by
 unfold c_41 at h ⊢
 split at h
 · repeat' first | exact callX_mono (fun _ h => hk _ _ h) h | refine bO_mono (fun _ h => ?_) h
 · cases h
theorem w_41 (l0 : List Int) (k : AV tau → Mem tau → Option Unit) : fnA E_41 C_41 D_41 Tryd.f41 B_41 [.sl 5 l0] ⟨[], []⟩ k = (callX (fun n => spec_l15Open.f l0) fun t0 => callX (fun n => spec_l1Boxes.f n t0.1 t0.2) fun t1 => k (.own 0 0) ⟨[], [some ⟨70, t1.1, 0⟩]⟩ : Option Unit) := by kernel_rfl
theorem okc_41 (args : List (AV tau)) (m : Mem tau) (κ : AV tau → Mem tau → Option Unit) (hh : c_41 args m κ = some ()) : ∃ av m1, κ av m1 = some () ∧ ToldA Tryd.prog TT (pnT 41) 41 args m av m1 := by
 obtain ⟨bx_, rw_⟩ := m
 unfold c_41 at hh
 simp only at hh
 split at hh
 case h_2 => cases hh
 rename_i b0
 obtain ⟨l0, hx0, hh0⟩ := bO_some hh
 have ex0 := asSl_some hx0
 subst ex0
 obtain ⟨N, t, h, hκ⟩ := callX_some hh0
 refine ⟨_, _, hκ, told_of_run pq okC_41 (fun _ _ _ => drawA_ok pq okC_41 hmix) (E := E_41) (fn := Tryd.f41) (body := B_41) (by kernel_rfl) (by kernel_rfl) (by kernel_rfl) (by rfl) (by exact Nat.le_of_ble_eq_true rfl) (fun k hk => ?_)⟩
 refine (w_41 l0 k).trans ?_
 replace h : spec_DrawBoxOk.f N l0 = some t := h
 unfold spec_DrawBoxOk.f at h
 refine call_h 0 h (fun t0 e3 h => ?_)
 refine call_h N h (fun t1 e4 h => ?_)
 cases h; exact hk
noncomputable def C_42 : Ctr tau Unit := ctrS 41 c_41 C_41
noncomputable def D_42 : Drw tau := drawA E_42 C_42
theorem okC_42 : CtrOk Tryd.prog TT pnT C_42 := ctrS_ok okC_41 okc_41
theorem mC_42 : CtrMono C_42 := ctrS_mono mC_41 mc_41
theorem mD_42 : DrMono D_42 := drawA_mono mC_42
noncomputable def B_42 : Code := Tryd.f42.body.getD .skip
theorem mc_42 (args : List (AV tau)) (m : Mem tau) (k k' : AV tau → Mem tau → Option Unit) (hk : ∀ av m, k av m = some () → k' av m = some ()) (h : c_42 args m k = some ()) : c_42 args m k' = some () := by
 unfold c_42 at h ⊢
 split at h
 · repeat' first | exact callX_mono (fun _ h => hk _ _ h) h | refine bO_mono (fun _ h => ?_) h
 · cases h
noncomputable def K_42_0 (k : AV tau → Mem tau → Option Unit) : Kon tau := (kBlock 0 (kS E_42 C_42 D_42 (codeP B_42 [1, 1, 1]) (kEnd E_42 Tryd.f42 k)))
def st_42_0 (x0 : (List S70)) (x1 : (List S70)) (x2 : Int) : St tau := ⟨tmL 26 0 [(0, .sl 70 x0), (1, .sl 70 x1), (5, .int .i64 x2)], ⟨[], []⟩⟩
noncomputable def LP_42_0 (k : AV tau → Mem tau → Option Unit) (x0 : (List S70)) (x1 : (List S70)) (x2 : Int) : Option Unit := loopA E_42 (codeA E_42 C_42 D_42 (codeP B_42 [1, 1, 0, 1, 0, 0])) (codeP B_42 [1, 1, 0, 1, 0, 0]) (K_42_0 k) (st_42_0 x0 x1 x2)
theorem w_42_0 (k : AV tau → Mem tau → Option Unit) (x0 : (List S70)) (x1 : (List S70)) (x2 : Int) : codeA E_42 C_42 D_42 (codeP B_42 [1, 1, 0, 1, 0, 0]) (kL E_42 C_42 D_42 (codeP B_42 [1, 1, 0, 1, 0, 0]) (K_42_0 k)) (st_42_0 x0 x1 x2) = (brA (decide (x2 < ((x0.length : Nat) : Int))) (brA (decide ((0 : Int) ≤ x2)) (brA (decide (x2 < ((x0.length : Nat) : Int))) (brA (decide ((0 : Int) ≤ x2)) (brA (decide (x2 < ((x1.length : Nat) : Int))) (brA (!(((rd_T70 x0 x2).f0 == (rd_T70 x1 x2).f0) && ((rd_T70 x0 x2).f1 == (rd_T70 x1 x2).f1))) (k (.bool false) ⟨[], []⟩) (LP_42_0 k x0 x1 (wrap64 (x2 + (1 : Int))))) (none)) (none)) (none)) (none)) (k (.bool true) ⟨[], []⟩) : Option Unit) := by
 simp only [← wrapA_i64]
 kernel_rfl
theorem w_42 (l0 : List S70) (l1 : List S70) (k : AV tau → Mem tau → Option Unit) : fnA E_42 C_42 D_42 Tryd.f42 B_42 [.sl 70 l0, .sl 70 l1] ⟨[], []⟩ k = (brA (!(decide (((l0.length : Nat) : Int) = ((l1.length : Nat) : Int)))) (k (.bool false) ⟨[], []⟩) (LP_42_0 k l0 l1 (0 : Int)) : Option Unit) := by kernel_rfl
def S_42_0 (N : Nat) : Prop := ∀ (k : AV tau → Mem tau → Option Unit) (x0 : (List S70)) (x1 : (List S70)) (x2 : Int) (r : Bool), spec_BoxSame.l0 N (x0) (x1) (x2) = some r → k (.bool (r)) ⟨[], []⟩ = some () → LP_42_0 k x0 x1 x2 = some ()
theorem L_42 (N : Nat) : S_42_0 N := by
 induction N using Nat.strongRecOn with | _ N0 ih =>
 skip
 intro k x0 x1 x2 r h hk
 rcases N0 with _ | N
 · cases h
 first | rw [spec_BoxSame.l0] at h | simp only [spec_BoxSame.l0] at h | (unfold spec_BoxSame.l0 at h; dsimp only at h)
 refine loop_fold mC_42 mD_42 ?_
 refine (w_42_0 k x0 x1 x2).trans ?_
 refine br_eti h rfl (fun c11 h => ?_) (fun c11 h => ?_)
 ·cases h; exact hk
 refine br_g h rfl (fun c12 h => ?_)
 refine br_t (by first | (simp [c11]; done) | (simp; omega) | (simp only [List.length_append, List.length_cons, List.length_nil, List.length_take, List.length_drop] at c11 ⊢; simp; omega) | (simp only [List.length_append, List.length_cons, List.length_nil, List.length_take, List.length_drop] at c11; simp; omega) | (simp_all; done)) ?_
 refine br_t (by first | (simp [c12]; done) | (simp; omega) | (simp only [List.length_append, List.length_cons, List.length_nil, List.length_take, List.length_drop] at c11 ⊢; simp; omega) | (simp only [List.length_append, List.length_cons, List.length_nil, List.length_take, List.length_drop] at c11; simp; omega) | (simp_all; done)) ?_
 refine br_g h rfl (fun c13 h => ?_)
 refine br_ite h (by first | rfl | exact dect | exact (congrArg not dect) | (simp; done) | (simp [beqI]; done) | (simp; omega)) (fun c14 h => ?_) (fun c14 h => ?_)
 ·cases h; exact hk
 exact (ih N (by omega)) _ _ _ _ _ h hk
theorem okc_42 (args : List (AV tau)) (m : Mem tau) (κ : AV tau → Mem tau → Option Unit) (hh : c_42 args m κ = some ()) : ∃ av m1, κ av m1 = some () ∧ ToldA Tryd.prog TT (pnT 42) 42 args m av m1 := by
 obtain ⟨bx_, rw_⟩ := m
 unfold c_42 at hh
 simp only at hh
 split at hh
 case h_2 => cases hh
 rename_i b0 b1
 obtain ⟨l0, hx0, hh0⟩ := bO_some hh
 obtain ⟨l1, hx1, hh1⟩ := bO_some hh0
 have ex0 := asSl_some hx0
 have ex1 := asSl_some hx1
 subst ex0 ex1
 obtain ⟨N, t, h, hκ⟩ := callX_some hh1
 refine ⟨_, _, hκ, told_of_run pq okC_42 (fun _ _ _ => drawA_ok pq okC_42 hmix) (E := E_42) (fn := Tryd.f42) (body := B_42) (by kernel_rfl) (by kernel_rfl) (by kernel_rfl) (by rfl) (by exact Nat.le_of_ble_eq_true rfl) (fun k hk => ?_)⟩
 refine (w_42 l0 l1 k).trans ?_
 replace h : spec_BoxSame.f N l0 l1 = some t := h
 unfold spec_BoxSame.f at h
 refine br_etn h rfl (fun c15 h => ?_) (fun c15 h => ?_)
 ·cases h; exact hk
 exact (L_42 N) _ _ _ _ _ h hk
noncomputable def C_40 : Ctr tau Unit := ctrS 42 c_42 C_42
noncomputable def D_40 : Drw tau := drawA E_40 C_40
theorem okC_40 : CtrOk Tryd.prog TT pnT C_40 := ctrS_ok okC_42 okc_42
theorem mC_40 : CtrMono C_40 := ctrS_mono mC_42 mc_42
theorem mD_40 : DrMono D_40 := drawA_mono mC_40
noncomputable def B_40 : Code := Tryd.f40.body.getD .skip
theorem mc_40 (args : List (AV tau)) (m : Mem tau) (k k' : AV tau → Mem tau → Option Unit) (hk : ∀ av m, k av m = some () → k' av m = some ()) (h : c_40 args m k = some ()) : c_40 args m k' = some () := by
 unfold c_40 at h ⊢
 split at h
 · repeat' first | exact callX_mono (fun _ h => hk _ _ h) h | refine bO_mono (fun _ h => ?_) h
 · cases h
theorem w_40 (l0 : List Int) (k : AV tau → Mem tau → Option Unit) : fnA E_40 C_40 D_40 Tryd.f40 B_40 [.sl 5 l0] ⟨[], []⟩ k = (callX (fun n => spec_l15Open.f l0) fun t0 => callX (fun n => spec_l1Boxes.f n t0.1 t0.2) fun t1 => callX (fun n => spec_l15Open.f l0) fun t2 => callX (fun n => spec_l1Boxes.f n t2.1 t2.2) fun t3 => brA (decide (((l0.length : Nat) : Int) > (0 : Int))) (brA (decide ((0 : Int) < ((l0.length : Nat) : Int))) (brA (decide ((Int.tmod (rd l0 (0 : Int)) (2 : Int)) = (1 : Int))) (brA (decide ((0 : Int) < ((t3.1.length : Nat) : Int))) (brA (decide ((0 : Int) < ((t3.1.length : Nat) : Int))) (k (.tup [.own 0 0, .own 1 0]) ⟨[], [some ⟨70, t1.1, 0⟩, some ⟨70, (List.set t3.1 (Int.toNat (0 : Int)) (⟨(wrap64 ((rd_T70 t3.1 (0 : Int)).f0 + (1 : Int))), (rd_T70 t3.1 (0 : Int)).f1⟩ : S70)), 0⟩]⟩) (none)) (none)) (k (.tup [.own 0 0, .own 1 0]) ⟨[], [some ⟨70, t1.1, 0⟩, some ⟨70, t3.1, 0⟩]⟩)) (none)) (k (.tup [.own 0 0, .own 1 0]) ⟨[], [some ⟨70, t1.1, 0⟩, some ⟨70, t3.1, 0⟩]⟩) : Option Unit) := by
 simp only [← wrapA_i64]
 kernel_rfl
theorem okc_40 (args : List (AV tau)) (m : Mem tau) (κ : AV tau → Mem tau → Option Unit) (hh : c_40 args m κ = some ()) : ∃ av m1, κ av m1 = some () ∧ ToldA Tryd.prog TT (pnT 40) 40 args m av m1 := by
 obtain ⟨bx_, rw_⟩ := m
 unfold c_40 at hh
 simp only at hh
 split at hh
 case h_2 => cases hh
 rename_i b0
 obtain ⟨l0, hx0, hh0⟩ := bO_some hh
 have ex0 := asSl_some hx0
 subst ex0
 obtain ⟨N, t, h, hκ⟩ := callX_some hh0
 refine ⟨_, _, hκ, told_of_run pq okC_40 (fun _ _ _ => drawA_ok pq okC_40 hmix) (E := E_40) (fn := Tryd.f40) (body := B_40) (by kernel_rfl) (by kernel_rfl) (by kernel_rfl) (by rfl) (by exact Nat.le_of_ble_eq_true rfl) (fun k hk => ?_)⟩
 refine (w_40 l0 k).trans ?_
 replace h : spec_DrawBoxSame.f N l0 = some t := h
 unfold spec_DrawBoxSame.f at h
 refine call_h 0 h (fun t0 e10 h => ?_)
 refine call_h N h (fun t1 e11 h => ?_)
 refine call_h 0 h (fun t2 e12 h => ?_)
 refine call_h N h (fun t3 e13 h => ?_)
 refine br_eti h rfl (fun c14 h => ?_) (fun c14 h => ?_)
 ·cases h; exact hk
 refine br_g h rfl (fun c15 h => ?_)
 refine br_eti h rfl (fun c16 h => ?_) (fun c16 h => ?_)
 ·cases h; exact hk
 refine br_g h rfl (fun c17 h => ?_)
 refine br_g h rfl (fun c18 h => ?_)
 cases h; exact hk
noncomputable def C_17 : Ctr tau Unit := ctrS 40 c_40 C_40
noncomputable def D_17 : Drw tau := drawA E_17 C_17
theorem okC_17 : CtrOk Tryd.prog TT pnT C_17 := ctrS_ok okC_40 okc_40
theorem mC_17 : CtrMono C_17 := ctrS_mono mC_40 mc_40
theorem mD_17 : DrMono D_17 := drawA_mono mC_17
noncomputable def B_17 : Code := Tryd.f17.body.getD .skip
theorem mc_17 (args : List (AV tau)) (m : Mem tau) (k k' : AV tau → Mem tau → Option Unit) (hk : ∀ av m, k av m = some () → k' av m = some ()) (h : c_17 args m k = some ()) : c_17 args m k' = some () := by
 unfold c_17 at h ⊢
 split at h
 · repeat' first | exact callX_mono (fun _ h => hk _ _ h) h | refine bO_mono (fun _ h => ?_) h
 · cases h
noncomputable def K_17_0 (k : AV tau → Mem tau → Option Unit) : Kon tau := (kBlock 0 (kS E_17 C_17 D_17 (codeP B_17 [1, 1, 1]) (kEnd E_17 Tryd.f17 k)))
def st_17_0 (x0 : (List S70)) (x1 : Int) (x2 : Int) (x3 : (List ByteArray)) : St tau := ⟨tmL 26 0 [(3, .own 0 0), (6, .sl 70 x0), (7, .int .i64 x1), (8, .int .i64 x2)], ⟨[], [some ⟨9, x3, 0⟩]⟩⟩
noncomputable def LP_17_0 (k : AV tau → Mem tau → Option Unit) (x0 : (List S70)) (x1 : Int) (x2 : Int) (x3 : (List ByteArray)) : Option Unit := loopA E_17 (codeA E_17 C_17 D_17 (codeP B_17 [1, 1, 0, 1, 0, 0])) (codeP B_17 [1, 1, 0, 1, 0, 0]) (K_17_0 k) (st_17_0 x0 x1 x2 x3)
theorem w_17_0 (k : AV tau → Mem tau → Option Unit) (x0 : (List S70)) (x1 : Int) (x2 : Int) (x3 : (List ByteArray)) : codeA E_17 C_17 D_17 (codeP B_17 [1, 1, 0, 1, 0, 0]) (kL E_17 C_17 D_17 (codeP B_17 [1, 1, 0, 1, 0, 0]) (K_17_0 k)) (st_17_0 x0 x1 x2 x3) = (brA (decide (x2 < x1)) (brA (decide ((0 : Int) ≤ x2)) (brA (decide (x2 < ((x0.length : Nat) : Int))) (callX (fun n => strconv_Itoa.f n ((rd_T70 x0 x2).f1)) fun t0 => brA (decide ((t0.size + 1) ≤ 9223372036854775807)) (callX (fun n => strconv_Itoa.f n ((rd_T70 x0 x2).f0)) fun t1 => brA (decide (((t0 ++ (bs [47])).size + t1.size) ≤ 9223372036854775807)) (brA (decide ((x3.length + 1) ≤ 8796093022208)) (LP_17_0 k x0 x1 (wrap64 (x2 + (1 : Int))) (x3 ++ ([((t0 ++ (bs [47])) ++ t1)] : List ByteArray))) (none)) (none)) (none)) (none)) (none)) (callX (fun n => strings_Join.f n x3 (bs [32])) fun t2 => k (.str t2) ⟨[], []⟩) : Option Unit) := by
 simp only [← wrapA_i64]
 kernel_rfl
theorem w_17 (l0 : List S70) (k : AV tau → Mem tau → Option Unit) : fnA E_17 C_17 D_17 Tryd.f17 B_17 [.sl 70 l0] ⟨[], []⟩ k = (LP_17_0 k l0 ((l0.length : Nat) : Int) (0 : Int) ([] : List ByteArray) : Option Unit) := by kernel_rfl
def S_17_0 (N : Nat) : Prop := ∀ (k : AV tau → Mem tau → Option Unit) (x0 : (List S70)) (x1 : Int) (x2 : Int) (x3 : (List ByteArray)) (r : ByteArray), impl_BoxText.l0 N (x0) (x1) (x2) (x3) = some r → k (.str (r)) ⟨[], []⟩ = some () → LP_17_0 k x0 x1 x2 x3 = some ()
theorem L_17 (N : Nat) : S_17_0 N := by
 induction N using Nat.strongRecOn with | _ N0 ih =>
 skip
 intro k x0 x1 x2 x3 r h hk
 rcases N0 with _ | N
 · cases h
 first | rw [impl_BoxText.l0] at h | simp only [impl_BoxText.l0] at h | (unfold impl_BoxText.l0 at h; dsimp only at h)
 refine loop_fold mC_17 mD_17 ?_
 refine (w_17_0 k x0 x1 x2 x3).trans ?_
 refine br_eti h rfl (fun c19 h => ?_) (fun c19 h => ?_)
 ·refine call_h N h (fun t2 e20 h => ?_)
  cases h; exact hk
 refine br_g h rfl (fun c21 h => ?_)
 refine br_g h rfl (fun c22 h => ?_)
 refine call_h N h (fun t0 e23 h => ?_)
 refine br_g h rfl (fun c24 h => ?_)
 refine call_h N h (fun t1 e25 h => ?_)
 refine br_g h rfl (fun c26 h => ?_)
 refine br_g h rfl (fun c27 h => ?_)
 exact (ih N (by omega)) _ _ _ _ _ _ h hk
theorem okc_17 (args : List (AV tau)) (m : Mem tau) (κ : AV tau → Mem tau → Option Unit) (hh : c_17 args m κ = some ()) : ∃ av m1, κ av m1 = some () ∧ ToldA Tryd.prog TT (pnT 17) 17 args m av m1 := by
 obtain ⟨bx_, rw_⟩ := m
 unfold c_17 at hh
 simp only at hh
 split at hh
 case h_2 => cases hh
 rename_i b0
 obtain ⟨l0, hx0, hh0⟩ := bO_some hh
 have ex0 := asSl_some hx0
 subst ex0
 obtain ⟨N, t, h, hκ⟩ := callX_some hh0
 refine ⟨_, _, hκ, told_of_run pq okC_17 (fun _ _ _ => drawA_ok pq okC_17 hmix) (E := E_17) (fn := Tryd.f17) (body := B_17) (by kernel_rfl) (by kernel_rfl) (by kernel_rfl) (by rfl) (by exact Nat.le_of_ble_eq_true rfl) (fun k hk => ?_)⟩
 refine (w_17 l0 k).trans ?_
 replace h : impl_BoxText.f N l0 = some t := h
 unfold impl_BoxText.f at h
 exact (L_17 N) _ _ _ _ _ _ h hk
noncomputable def C_7 : Ctr tau Unit := ctrS 17 c_17 C_17
noncomputable def D_7 : Drw tau := drawA E_7 C_7
theorem okC_7 : CtrOk Tryd.prog TT pnT C_7 := ctrS_ok okC_17 okc_17
theorem mC_7 : CtrMono C_7 := ctrS_mono mC_17 mc_17
theorem mD_7 : DrMono D_7 := drawA_mono mC_7
noncomputable def B_7 : Code := Tryd.f7.body.getD .skip
theorem mc_7 (args : List (AV tau)) (m : Mem tau) (k k' : AV tau → Mem tau → Option Unit) (hk : ∀ av m, k av m = some () → k' av m = some ()) (h : c_7 args m k = some ()) : c_7 args m k' = some () := by
 unfold c_7 at h ⊢
 split at h
 · repeat' first | exact callX_mono (fun _ h => hk _ _ h) h | refine bO_mono (fun _ h => ?_) h
 · cases h
theorem w_7 (l0 : List Int) (l1 : List Int) (k : AV tau → Mem tau → Option Unit) : fnA E_7 C_7 D_7 Tryd.f7 B_7 [.sl 5 l0, .sl 5 l1] ⟨[], []⟩ k = (brA (decide (((l0.length : Nat) : Int) > (1048576 : Int))) (k (.bool true) ⟨[], []⟩) (brA (decide (((l1.length : Nat) : Int) > (1048576 : Int))) (k (.bool true) ⟨[], []⟩) (callX (fun n => spec_DrawBoxSame.f n l0) fun t0 => callX (fun n => spec_DrawBoxOk.f n l1) fun t1 => callX (fun n => impl_BoxSame.f n t0.1 t0.2) fun t2 => callX (fun n => spec_BoxSame.f n t0.1 t0.2) fun t3 => brA (!(t2 == t3)) (k (.bool false) ⟨[], []⟩) (callX (fun n => impl_BoxSame.f n t0.1 t1) fun t4 => callX (fun n => impl_BoxSame.f n t1 t0.1) fun t5 => brA (!(t4 == t5)) (k (.bool false) ⟨[], []⟩) (callX (fun n => impl_BoxSame.f n t0.1 t0.1) fun t6 => brA (!t6) (k (.bool false) ⟨[], []⟩) (callX (fun n => impl_BoxSame.f n t0.1 t0.2) fun t7 => callX (fun n => impl_BoxText.f n t0.1) fun t8 => callX (fun n => impl_BoxText.f n t0.2) fun t9 => brA (t7 == (decide (t8 = t9))) (callX (fun n => impl_BoxSame.f n t0.1 t1) fun t10 => callX (fun n => impl_BoxText.f n t0.1) fun t11 => callX (fun n => impl_BoxText.f n t1) fun t12 => k (.bool (t10 == (decide (t11 = t12)))) ⟨[], []⟩) (k (.bool false) ⟨[], []⟩)))))) : Option Unit) := by kernel_rfl
theorem okc_7 (args : List (AV tau)) (m : Mem tau) (κ : AV tau → Mem tau → Option Unit) (hh : c_7 args m κ = some ()) : ∃ av m1, κ av m1 = some () ∧ ToldA Tryd.prog TT (pnT 7) 7 args m av m1 := by
 obtain ⟨bx_, rw_⟩ := m
 unfold c_7 at hh
 simp only at hh
 split at hh
 case h_2 => cases hh
 rename_i b0 b1
 obtain ⟨l0, hx0, hh0⟩ := bO_some hh
 obtain ⟨l1, hx1, hh1⟩ := bO_some hh0
 have ex0 := asSl_some hx0
 have ex1 := asSl_some hx1
 subst ex0 ex1
 obtain ⟨N, t, h, hκ⟩ := callX_some hh1
 refine ⟨_, _, hκ, told_of_run pq okC_7 (fun _ _ _ => drawA_ok pq okC_7 hmix) (E := E_7) (fn := Tryd.f7) (body := B_7) (by kernel_rfl) (by kernel_rfl) (by kernel_rfl) (by rfl) (by exact Nat.le_of_ble_eq_true rfl) (fun k hk => ?_)⟩
 refine (w_7 l0 l1 k).trans ?_
 replace h : laws_FnBoxSame.f N l0 l1 = some t := h
 unfold laws_FnBoxSame.f at h
 refine br_ite h rfl (fun c20 h => ?_) (fun c20 h => ?_)
 ·cases h; exact hk
 refine br_ite h rfl (fun c21 h => ?_) (fun c21 h => ?_)
 ·cases h; exact hk
 refine call_h N h (fun t0 e22 h => ?_)
 refine call_h N h (fun t1 e23 h => ?_)
 refine call_h N h (fun t2 e24 h => ?_)
 refine call_h N h (fun t3 e25 h => ?_)
 refine br_etn h (by first | rfl | exact dect | exact (congrArg not dect) | (simp; done) | (simp [beqI]; done) | (simp; omega)) (fun c26 h => ?_) (fun c26 h => ?_)
 ·cases h; exact hk
 refine call_h N h (fun t4 e27 h => ?_)
 refine call_h N h (fun t5 e28 h => ?_)
 refine br_etn h (by first | rfl | exact dect | exact (congrArg not dect) | (simp; done) | (simp [beqI]; done) | (simp; omega)) (fun c29 h => ?_) (fun c29 h => ?_)
 ·cases h; exact hk
 refine call_h N h (fun t6 e30 h => ?_)
 refine br_etn h (congrArg not dect) (fun c31 h => ?_) (fun c31 h => ?_)
 ·cases h; exact hk
 refine call_h N h (fun t7 e32 h => ?_)
 refine call_h N h (fun t8 e33 h => ?_)
 refine call_h N h (fun t9 e34 h => ?_)
 refine br_eti h (by first | rfl | exact dect | exact (congrArg not dect) | (simp; done) | (simp [beqI]; done) | (simp; omega)) (fun c35 h => ?_) (fun c35 h => ?_)
 ·cases h; exact hk
 refine call_h N h (fun t10 e36 h => ?_)
 refine call_h N h (fun t11 e37 h => ?_)
 refine call_h N h (fun t12 e38 h => ?_)
 cases h; exact hk
end Go.Proofs.YtlpgpckggnimhaaDoor.PFnBoxSame
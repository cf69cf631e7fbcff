/- The machine's texts of FnExactProgText (links). Conditions: none. -/
import Derived.Test.YtlpgpckggnimhaaDoorPFnExactProgTextx1
set_option linter.unusedVariables false
set_option linter.unusedSimpArgs false
set_option maxRecDepth 100000
set_option maxHeartbeats 4000000
namespace Go.Proofs.YtlpgpckggnimhaaDoor.PFnExactProgText
open Go.RowKit Go.Proofs.YtlpgpckggnimhaaDoorW.PrintWords Go.Proofs.YtlpgpckggnimhaaDoorW.PrintLast Go.Proofs.YtlpgpckggnimhaaDoorW.PrintMore
open Go Go.Proofs Am
noncomputable def C_59 : Ctr tau Unit := ctr0
theorem okC_59 : CtrOk Tryd.prog TT pnT C_59 := ctr0_ok
theorem mC_59 : CtrMono C_59 := ctr0_mono
theorem mc_59 (args : List (AV tau)) (m : Mem tau) (k k' : AV tau → Mem tau → Option Unit) (hk : ∀ av m, k av m = some () → k' av m = some ()) (h : c_59 args m k = some ()) : c_59 args m k' = some () := by
 unfold c_59 at h ⊢
 split at h
 · repeat' first | exact callX_mono (fun _ h => hk _ _ h) h | refine bO_mono (fun _ h => ?_) h
 · cases h
theorem okc_59 (args : List (AV tau)) (m : Mem tau) (κ : AV tau → Mem tau → Option Unit) (hh : c_59 args m κ = some ()) : ∃ av m1, κ av m1 = some () ∧ ToldA Tryd.prog TT (pnT 59) 59 args m av m1 := by
 obtain ⟨bx_, rw_⟩ := m
 unfold c_59 at hh
 simp only at hh
 split at hh
 case h_2 => cases hh
 rename_i b0 b1 r0
 obtain ⟨u0, hx0, hh0⟩ := bO_some hh
 obtain ⟨l0, hx1, hh1⟩ := bO_some hh0
 obtain ⟨a1, hx2, hh2⟩ := bO_some hh1
 have ex0 := asOwn_some hx0
 have ex1 := asRow_some hx1
 have ex2 := asS_some hx2
 subst ex0 ex1 ex2
 obtain ⟨N, t, h, hκ⟩ := callX_some hh2
 replace h : strings_Join.f N l0 a1 = some t := h
 refine ⟨_, _, hκ, ?_⟩
 unfold strings_Join.f at h
 split at h
 case isFalse => cases h
 rename_i hb
 cases h
 exact told_join (T := TT) (P := Tryd.prog) (e := 9) (xs := (l0 : List ByteArray)) (ys := l0) ⟨Tryd.f59, by kernel_rfl, by kernel_rfl, by kernel_rfl⟩ rfl rfl (fun j x y hx hy => by
   have := hx.symm.trans hy
   cases this; rfl) (fun hz w A c => by
   have hz' : l0 = [] := List.eq_nil_of_length_eq_zero hz
   subst hz'
   exact Any.strings_Join_none Tryd.lays156 Tryd.Builder_Extra_156 A c a1 w) (fun w g o c hc hg hle => Any.strings_Join Tryd.lays156 Tryd.Builder_Extra_156 g o c l0 a1 w hc hg hb.1 hle hb.2)
noncomputable def C_58 : Ctr tau Unit := ctrS 59 c_59 C_59
theorem okC_58 : CtrOk Tryd.prog TT pnT C_58 := ctrS_ok okC_59 okc_59
theorem mC_58 : CtrMono C_58 := ctrS_mono mC_59 mc_59
theorem mc_58 (args : List (AV tau)) (m : Mem tau) (k k' : AV tau → Mem tau → Option Unit) (hk : ∀ av m, k av m = some () → k' av m = some ()) (h : c_58 args m k = some ()) : c_58 args m k' = some () := by
 unfold c_58 at h ⊢
 split at h
 · repeat' first | exact callX_mono (fun _ h => hk _ _ h) h | refine bO_mono (fun _ h => ?_) h
 · cases h
theorem okc_58 (args : List (AV tau)) (m : Mem tau) (κ : AV tau → Mem tau → Option Unit) (hh : c_58 args m κ = some ()) : ∃ av m1, κ av m1 = some () ∧ ToldA Tryd.prog TT (pnT 58) 58 args m av m1 := by
 obtain ⟨bx_, rw_⟩ := m
 unfold c_58 at hh
 simp only at hh
 split at hh
 case h_2 => cases hh
 rename_i b0
 obtain ⟨a0, hx0, hh0⟩ := bO_some hh
 have ex0 := asI_some hx0
 subst ex0
 obtain ⟨N, t, h, hκ⟩ := callX_some hh0
 replace h : strconv_Itoa.f N a0 = some t := h
 refine ⟨_, _, hκ, ?_⟩
 unfold strconv_Itoa.f at h
 split at h
 case isFalse => cases h
 rename_i hb
 cases h
 exact told_num ⟨Tryd.f58, by kernel_rfl, by kernel_rfl, by kernel_rfl⟩ (fun w S hg => (Any.strconv_Itoa Tryd.laysM171 a0 hb.1 hb.2 w hg.2.2.2.2).mono fun e w' ⟨he, d, os, hw⟩ => ⟨he, hw ▸ below_grown w d os⟩)
noncomputable def C_63 : Ctr tau Unit := ctrS 58 c_58 C_58
theorem okC_63 : CtrOk Tryd.prog TT pnT C_63 := ctrS_ok okC_58 okc_58
theorem mC_63 : CtrMono C_63 := ctrS_mono mC_58 mc_58
theorem mc_63 (args : List (AV tau)) (m : Mem tau) (k k' : AV tau → Mem tau → Option Unit) (hk : ∀ av m, k av m = some () → k' av m = some ()) (h : c_63 args m k = some ()) : c_63 args m k' = some () := by
 unfold c_63 at h ⊢
 split at h
 · repeat' first | exact callX_mono (fun _ h => hk _ _ h) h | refine bO_mono (fun _ h => ?_) h
 · cases h
theorem okc_63 (args : List (AV tau)) (m : Mem tau) (κ : AV tau → Mem tau → Option Unit) (hh : c_63 args m κ = some ()) : ∃ av m1, κ av m1 = some () ∧ ToldA Tryd.prog TT (pnT 63) 63 args m av m1 := by
 obtain ⟨bx_, rw_⟩ := m
 unfold c_63 at hh
 simp only at hh
 split at hh
 case h_2 => cases hh
 rename_i b0
 obtain ⟨a0, hx0, hh0⟩ := bO_some hh
 have ex0 := asI_some hx0
 subst ex0
 obtain ⟨N, t, h, hκ⟩ := callX_some hh0
 replace h : spec_l15Dec.f N a0 = some t := h
 refine ⟨_, _, hκ, ?_⟩
 exact told_num ⟨Tryd.f63, by kernel_rfl, by kernel_rfl, by kernel_rfl⟩ (fun w S _ => spec_l15Dec.calls N a0 t w h)
noncomputable def C_55 : Ctr tau Unit := ctrS 63 c_63 C_63
noncomputable def D_55 : Drw tau := drawA E_55 C_55
theorem okC_55 : CtrOk Tryd.prog TT pnT C_55 := ctrS_ok okC_63 okc_63
theorem mC_55 : CtrMono C_55 := ctrS_mono mC_63 mc_63
theorem mD_55 : DrMono D_55 := drawA_mono mC_55
noncomputable def B_55 : Code := Tryd.f55.body.getD .skip
theorem mc_55 (args : List (AV tau)) (m : Mem tau) (k k' : AV tau → Mem tau → Option Unit) (hk : ∀ av m, k av m = some () → k' av m = some ()) (h : c_55 args m k = some ()) : c_55 args m k' = some () := by
 unfold c_55 at h ⊢
 split at h
 · repeat' first | exact callX_mono (fun _ h => hk _ _ h) h | refine bO_mono (fun _ h => ?_) h
 · cases h
theorem w_55 (a0_0 : Int) (a0_1 : Int) (a0_2 : Int) (a0_3 : Int) (a1_0 : Int) (a1_1 : Int) (a1_2 : Int) (a1_3 : Int) (k : AV tau → Mem tau → Option Unit) : fnA E_55 C_55 D_55 Tryd.f55 B_55 [.agg [.int .i64 a0_0, .int .i64 a0_1, .int .i64 a0_2, .int .i64 a0_3], .agg [.int .i64 a1_0, .int .i64 a1_1, .int .i64 a1_2, .int .i64 a1_3]] ⟨[], []⟩ k = (brA (!(decide (a0_0 = a1_0))) (k (.bool false) ⟨[], []⟩) (brA (!(decide (a0_1 = a1_1))) (k (.bool false) ⟨[], []⟩) (brA (!(decide (a0_2 = a1_2))) (k (.bool false) ⟨[], []⟩) (brA (!(decide (a0_3 = a1_3))) (k (.bool false) ⟨[], []⟩) (k (.bool true) ⟨[], []⟩)))) : Option Unit) := by kernel_rfl
theorem okc_55 (args : List (AV tau)) (m : Mem tau) (κ : AV tau → Mem tau → Option Unit) (hh : c_55 args m κ = some ()) : ∃ av m1, κ av m1 = some () ∧ ToldA Tryd.prog TT (pnT 55) 55 args m av m1 := by
 obtain ⟨bx_, rw_⟩ := m
 unfold c_55 at hh
 simp only at hh
 split at hh
 case h_2 => cases hh
 rename_i b0 b1 b2 b3 b4 b5 b6 b7
 obtain ⟨a0_0, hx0, hh0⟩ := bO_some hh
 obtain ⟨a0_1, hx1, hh1⟩ := bO_some hh0
 obtain ⟨a0_2, hx2, hh2⟩ := bO_some hh1
 obtain ⟨a0_3, hx3, hh3⟩ := bO_some hh2
 obtain ⟨a1_0, hx4, hh4⟩ := bO_some hh3
 obtain ⟨a1_1, hx5, hh5⟩ := bO_some hh4
 obtain ⟨a1_2, hx6, hh6⟩ := bO_some hh5
 obtain ⟨a1_3, hx7, hh7⟩ := bO_some hh6
 have ex0 := asI_some hx0
 have ex1 := asI_some hx1
 have ex2 := asI_some hx2
 have ex3 := asI_some hx3
 have ex4 := asI_some hx4
 have ex5 := asI_some hx5
 have ex6 := asI_some hx6
 have ex7 := asI_some hx7
 subst ex0 ex1 ex2 ex3 ex4 ex5 ex6 ex7
 obtain ⟨N, t, h, hκ⟩ := callX_some hh7
 refine ⟨_, _, hκ, told_of_run pq okC_55 (fun _ _ _ => drawA_ok pq okC_55 hmix) (E := E_55) (fn := Tryd.f55) (body := B_55) (by kernel_rfl) (by kernel_rfl) (by kernel_rfl) (by rfl) (by exact Nat.le_of_ble_eq_true rfl) (fun k hk => ?_)⟩
 refine (w_55 a0_0 a0_1 a0_2 a0_3 a1_0 a1_1 a1_2 a1_3 k).trans ?_
 replace h : laws_eqIns.f a0_0 a0_1 a0_2 a0_3 a1_0 a1_1 a1_2 a1_3 = some t := h
 unfold laws_eqIns.f at h
 refine br_etn h rfl (fun c5 h => ?_) (fun c5 h => ?_)
 ·cases h; exact hk
 refine br_etn h rfl (fun c6 h => ?_) (fun c6 h => ?_)
 ·cases h; exact hk
 refine br_etn h rfl (fun c7 h => ?_) (fun c7 h => ?_)
 ·cases h; exact hk
 refine br_itn h rfl (fun c8 h => ?_) (fun c8 h => ?_)
 ·cases h; exact hk
 cases h; exact hk
noncomputable def C_13 : Ctr tau Unit := ctrS 55 c_55 C_55
noncomputable def D_13 : Drw tau := drawA E_13 C_13
theorem okC_13 : CtrOk Tryd.prog TT pnT C_13 := ctrS_ok okC_55 okc_55
theorem mC_13 : CtrMono C_13 := ctrS_mono mC_55 mc_55
theorem mD_13 : DrMono D_13 := drawA_mono mC_13
noncomputable def B_13 : Code := Tryd.f13.body.getD .skip
theorem mc_13 (args : List (AV tau)) (m : Mem tau) (k k' : AV tau → Mem tau → Option Unit) (hk : ∀ av m, k av m = some () → k' av m = some ()) (h : c_13 args m k = some ()) : c_13 args m k' = some () := by
 unfold c_13 at h ⊢
 split at h
 · repeat' first | exact callX_mono (fun _ h => hk _ _ h) h | refine bO_mono (fun _ h => ?_) h
 · cases h
noncomputable def K_13_0 (k : AV tau → Mem tau → Option Unit) : Kon tau := (kBlock 0 (kS E_13 C_13 D_13 (codeP B_13 [1, 1, 1]) (kEnd E_13 Tryd.f13 k)))
def st_13_0 (x0 : (List S60)) (x1 : (List S60)) (x2 : Int) : St tau := ⟨tmL 27 0 [(0, .sl 60 x0), (1, .sl 60 x1), (5, .int .i64 x2)], ⟨[], []⟩⟩
noncomputable def LP_13_0 (k : AV tau → Mem tau → Option Unit) (x0 : (List S60)) (x1 : (List S60)) (x2 : Int) : Option Unit := loopA E_13 (codeA E_13 C_13 D_13 (codeP B_13 [1, 1, 0, 1, 0, 0])) (codeP B_13 [1, 1, 0, 1, 0, 0]) (K_13_0 k) (st_13_0 x0 x1 x2)
theorem w_13_0 (k : AV tau → Mem tau → Option Unit) (x0 : (List S60)) (x1 : (List S60)) (x2 : Int) : codeA E_13 C_13 D_13 (codeP B_13 [1, 1, 0, 1, 0, 0]) (kL E_13 C_13 D_13 (codeP B_13 [1, 1, 0, 1, 0, 0]) (K_13_0 k)) (st_13_0 x0 x1 x2) = (brA (decide (x2 < ((x0.length : Nat) : Int))) (brA (decide ((0 : Int) ≤ x2)) (brA (decide (x2 < ((x0.length : Nat) : Int))) (brA (decide ((0 : Int) ≤ x2)) (brA (decide (x2 < ((x1.length : Nat) : Int))) (callX (fun n => laws_eqIns.f ((rd_T60 x0 x2).f0) ((rd_T60 x0 x2).f1) ((rd_T60 x0 x2).f2) ((rd_T60 x0 x2).f3) ((rd_T60 x1 x2).f0) ((rd_T60 x1 x2).f1) ((rd_T60 x1 x2).f2) ((rd_T60 x1 x2).f3)) fun t0 => brA (!t0) (k (.bool false) ⟨[], []⟩) (LP_13_0 k x0 x1 (wrap64 (x2 + (1 : Int))))) (none)) (none)) (none)) (none)) (k (.bool true) ⟨[], []⟩) : Option Unit) := by
 simp only [← wrapA_i64]
 kernel_rfl
theorem w_13 (l0 : List S60) (l1 : List S60) (k : AV tau → Mem tau → Option Unit) : fnA E_13 C_13 D_13 Tryd.f13 B_13 [.sl 60 l0, .sl 60 l1] ⟨[], []⟩ k = (brA (!(decide (((l0.length : Nat) : Int) = ((l1.length : Nat) : Int)))) (k (.bool false) ⟨[], []⟩) (LP_13_0 k l0 l1 (0 : Int)) : Option Unit) := by kernel_rfl
def S_13_0 (N : Nat) : Prop := ∀ (k : AV tau → Mem tau → Option Unit) (x0 : (List S60)) (x1 : (List S60)) (x2 : Int) (r : Bool), laws_eqInsS.l0 N (x0) (x1) (x2) = some r → k (.bool (r)) ⟨[], []⟩ = some () → LP_13_0 k x0 x1 x2 = some ()
theorem L_13 (N : Nat) : S_13_0 N := by
 induction N using Nat.strongRecOn with | _ N0 ih =>
 skip
 intro k x0 x1 x2 r h hk
 rcases N0 with _ | N
 · cases h
 first | rw [laws_eqInsS.l0] at h | simp only [laws_eqInsS.l0] at h | (unfold laws_eqInsS.l0 at h; dsimp only at h)
 refine loop_fold mC_13 mD_13 ?_
 refine (w_13_0 k x0 x1 x2).trans ?_
 refine br_eti h rfl (fun c13 h => ?_) (fun c13 h => ?_)
 ·cases h; exact hk
 refine br_g h rfl (fun c14 h => ?_)
 refine br_t (by first | (simp [c13]; done) | (simp; omega) | (simp only [List.length_append, List.length_cons, List.length_nil, List.length_take, List.length_drop] at c13 ⊢; simp; omega) | (simp only [List.length_append, List.length_cons, List.length_nil, List.length_take, List.length_drop] at c13; simp; omega) | (simp_all; done)) ?_
 refine br_t (by first | (simp [c14]; done) | (simp; omega) | (simp only [List.length_append, List.length_cons, List.length_nil, List.length_take, List.length_drop] at c13 ⊢; simp; omega) | (simp only [List.length_append, List.length_cons, List.length_nil, List.length_take, List.length_drop] at c13; simp; omega) | (simp_all; done)) ?_
 refine br_g h rfl (fun c15 h => ?_)
 refine call_h 0 h (fun t0 e16 h => ?_)
 refine br_etn h (congrArg not dect) (fun c17 h => ?_) (fun c17 h => ?_)
 ·cases h; exact hk
 exact (ih N (by omega)) _ _ _ _ _ h hk
theorem okc_13 (args : List (AV tau)) (m : Mem tau) (κ : AV tau → Mem tau → Option Unit) (hh : c_13 args m κ = some ()) : ∃ av m1, κ av m1 = some () ∧ ToldA Tryd.prog TT (pnT 13) 13 args m av m1 := by
 obtain ⟨bx_, rw_⟩ := m
 unfold c_13 at hh
 simp only at hh
 split at hh
 case h_2 => cases hh
 rename_i b0 b1
 obtain ⟨l0, hx0, hh0⟩ := bO_some hh
 obtain ⟨l1, hx1, hh1⟩ := bO_some hh0
 have ex0 := asSl_some hx0
 have ex1 := asSl_some hx1
 subst ex0 ex1
 obtain ⟨N, t, h, hκ⟩ := callX_some hh1
 refine ⟨_, _, hκ, told_of_run pq okC_13 (fun _ _ _ => drawA_ok pq okC_13 hmix) (E := E_13) (fn := Tryd.f13) (body := B_13) (by kernel_rfl) (by kernel_rfl) (by kernel_rfl) (by rfl) (by exact Nat.le_of_ble_eq_true rfl) (fun k hk => ?_)⟩
 refine (w_13 l0 l1 k).trans ?_
 replace h : laws_eqInsS.f N l0 l1 = some t := h
 unfold laws_eqInsS.f at h
 refine br_etn h rfl (fun c18 h => ?_) (fun c18 h => ?_)
 ·cases h; exact hk
 exact (L_13 N) _ _ _ _ _ h hk
noncomputable def C_43 : Ctr tau Unit := ctrS 13 c_13 C_13
noncomputable def D_43 : Drw tau := drawA E_43 C_43
theorem okC_43 : CtrOk Tryd.prog TT pnT C_43 := ctrS_ok okC_13 okc_13
theorem mC_43 : CtrMono C_43 := ctrS_mono mC_13 mc_13
theorem mD_43 : DrMono D_43 := drawA_mono mC_43
noncomputable def B_43 : Code := Tryd.f43.body.getD .skip
theorem mc_43 (args : List (AV tau)) (m : Mem tau) (k k' : AV tau → Mem tau → Option Unit) (hk : ∀ av m, k av m = some () → k' av m = some ()) (h : c_43 args m k = some ()) : c_43 args m k' = some () := by
 unfold c_43 at h ⊢
 split at h
 · repeat' first | exact callX_mono (fun _ h => hk _ _ h) h | refine bO_mono (fun _ h => ?_) h
 · cases h
theorem w_43 (l0 : List S93) (a1 : Int) (k : AV tau → Mem tau → Option Unit) : fnA E_43 C_43 D_43 Tryd.f43 B_43 [.sl 93 l0, .int .i64 a1] ⟨[], []⟩ k = (brA (decide ((wrap64 (a1 - ((l0.length : Nat) : Int))) < (0 : Int))) (k (.int .i64 (-(1 : Int))) ⟨[], []⟩) (k (.int .i64 (wrap64 (a1 - ((l0.length : Nat) : Int)))) ⟨[], []⟩) : Option Unit) := by
 simp only [← wrapA_i64]
 kernel_rfl
theorem okc_43 (args : List (AV tau)) (m : Mem tau) (κ : AV tau → Mem tau → Option Unit) (hh : c_43 args m κ = some ()) : ∃ av m1, κ av m1 = some () ∧ ToldA Tryd.prog TT (pnT 43) 43 args m av m1 := by
 obtain ⟨bx_, rw_⟩ := m
 unfold c_43 at hh
 simp only at hh
 split at hh
 case h_2 => cases hh
 rename_i b0 b1
 obtain ⟨l0, hx0, hh0⟩ := bO_some hh
 obtain ⟨a1, hx1, hh1⟩ := bO_some hh0
 have ex0 := asSl_some hx0
 have ex1 := asI_some hx1
 subst ex0 ex1
 obtain ⟨N, t, h, hκ⟩ := callX_some hh1
 refine ⟨_, _, hκ, told_of_run pq okC_43 (fun _ _ _ => drawA_ok pq okC_43 hmix) (E := E_43) (fn := Tryd.f43) (body := B_43) (by kernel_rfl) (by kernel_rfl) (by kernel_rfl) (by rfl) (by exact Nat.le_of_ble_eq_true rfl) (fun k hk => ?_)⟩
 refine (w_43 l0 a1 k).trans ?_
 replace h : laws_szInsS.f l0 a1 = some t := h
 unfold laws_szInsS.f at h
 refine br_ite h rfl (fun c2 h => ?_) (fun c2 h => ?_)
 ·cases h; exact hk
 cases h; exact hk
noncomputable def C_81 : Ctr tau Unit := ctrS 43 c_43 C_43
noncomputable def D_81 : Drw tau := drawA E_81 C_81
theorem okC_81 : CtrOk Tryd.prog TT pnT C_81 := ctrS_ok okC_43 okc_43
theorem mC_81 : CtrMono C_81 := ctrS_mono mC_43 mc_43
theorem mD_81 : DrMono D_81 := drawA_mono mC_81
noncomputable def B_81 : Code := Tryd.f81.body.getD .skip
theorem mc_81 (args : List (AV tau)) (m : Mem tau) (k k' : AV tau → Mem tau → Option Unit) (hk : ∀ av m, k av m = some () → k' av m = some ()) (h : c_81 args m k = some ()) : c_81 args m k' = some () := by
 unfold c_81 at h ⊢
 split at h
 · repeat' first | exact callX_mono (fun _ h => hk _ _ h) h | refine bO_mono (fun _ h => ?_) h
 · cases h
theorem w_81 (a0_0 : Int) (a0_1 : Int) (a0_2 : Int) (a0_3 : Int) (k : AV tau → Mem tau → Option Unit) : fnA E_81 C_81 D_81 Tryd.f81 B_81 [.agg [.int .i64 a0_0, .int .i64 a0_1, .int .i64 a0_2, .int .i64 a0_3]] ⟨[], []⟩ k = (k (.agg [.int .i64 a0_0, .int .i64 a0_1, .int .i64 a0_2, .int .i64 a0_3]) ⟨[], []⟩ : Option Unit) := by kernel_rfl
theorem okc_81 (args : List (AV tau)) (m : Mem tau) (κ : AV tau → Mem tau → Option Unit) (hh : c_81 args m κ = some ()) : ∃ av m1, κ av m1 = some () ∧ ToldA Tryd.prog TT (pnT 81) 81 args m av m1 := by
 obtain ⟨bx_, rw_⟩ := m
 unfold c_81 at hh
 simp only at hh
 split at hh
 case h_2 => cases hh
 rename_i b0 b1 b2 b3
 obtain ⟨a0_0, hx0, hh0⟩ := bO_some hh
 obtain ⟨a0_1, hx1, hh1⟩ := bO_some hh0
 obtain ⟨a0_2, hx2, hh2⟩ := bO_some hh1
 obtain ⟨a0_3, hx3, hh3⟩ := bO_some hh2
 have ex0 := asI_some hx0
 have ex1 := asI_some hx1
 have ex2 := asI_some hx2
 have ex3 := asI_some hx3
 subst ex0 ex1 ex2 ex3
 obtain ⟨N, t, h, hκ⟩ := callX_some hh3
 refine ⟨_, _, hκ, told_of_run pq okC_81 (fun _ _ _ => drawA_ok pq okC_81 hmix) (E := E_81) (fn := Tryd.f81) (body := B_81) (by kernel_rfl) (by kernel_rfl) (by kernel_rfl) (by rfl) (by exact Nat.le_of_ble_eq_true rfl) (fun k hk => ?_)⟩
 refine (w_81 a0_0 a0_1 a0_2 a0_3 k).trans ?_
 replace h : laws_toIns.f a0_0 a0_1 a0_2 a0_3 = some t := h
 unfold laws_toIns.f at h
 cases h; exact hk
noncomputable def C_44 : Ctr tau Unit := ctrS 81 c_81 C_81
noncomputable def D_44 : Drw tau := drawA E_44 C_44
theorem okC_44 : CtrOk Tryd.prog TT pnT C_44 := ctrS_ok okC_81 okc_81
theorem mC_44 : CtrMono C_44 := ctrS_mono mC_81 mc_81
theorem mD_44 : DrMono D_44 := drawA_mono mC_44
noncomputable def B_44 : Code := Tryd.f44.body.getD .skip
theorem mc_44 (args : List (AV tau)) (m : Mem tau) (k k' : AV tau → Mem tau → Option Unit) (hk : ∀ av m, k av m = some () → k' av m = some ()) (h : c_44 args m k = some ()) : c_44 args m k' = some () := by
 unfold c_44 at h ⊢
 split at h
 · repeat' first | exact callX_mono (fun _ h => hk _ _ h) h | refine bO_mono (fun _ h => ?_) h
 · cases h
noncomputable def K_44_0 (k : AV tau → Mem tau → Option Unit) : Kon tau := (kBlock 0 (kS E_44 C_44 D_44 (codeP B_44 [1, 1, 1]) (kEnd E_44 Tryd.f44 k)))
def st_44_0 (x0 : (List S93)) (x1 : Int) (x2 : (List S60)) : St tau := ⟨tmL 23 0 [(0, .sl 93 x0), (3, .own 0 0), (4, .int .i64 x1)], ⟨[], [some ⟨60, x2, 0⟩]⟩⟩
noncomputable def LP_44_0 (k : AV tau → Mem tau → Option Unit) (x0 : (List S93)) (x1 : Int) (x2 : (List S60)) : Option Unit := loopA E_44 (codeA E_44 C_44 D_44 (codeP B_44 [1, 1, 0, 1, 0, 0])) (codeP B_44 [1, 1, 0, 1, 0, 0]) (K_44_0 k) (st_44_0 x0 x1 x2)
theorem w_44_0 (k : AV tau → Mem tau → Option Unit) (x0 : (List S93)) (x1 : Int) (x2 : (List S60)) : codeA E_44 C_44 D_44 (codeP B_44 [1, 1, 0, 1, 0, 0]) (kL E_44 C_44 D_44 (codeP B_44 [1, 1, 0, 1, 0, 0]) (K_44_0 k)) (st_44_0 x0 x1 x2) = (brA (decide (x1 < ((x0.length : Nat) : Int))) (brA (decide ((0 : Int) ≤ x1)) (brA (decide (x1 < ((x0.length : Nat) : Int))) (callX (fun n => laws_toIns.f ((rd_T93 x0 x1).f0) ((rd_T93 x0 x1).f1) ((rd_T93 x0 x1).f2) ((rd_T93 x0 x1).f3)) fun t0 => brA (decide ((0 : Int) ≤ x1)) (brA (decide (x1 < ((x2.length : Nat) : Int))) (LP_44_0 k x0 (wrap64 (x1 + (1 : Int))) (List.set x2 (Int.toNat x1) (⟨t0.1, t0.2.1, t0.2.2.1, t0.2.2.2⟩ : S60))) (none)) (none)) (none)) (none)) (k (.own 0 0) ⟨[], [some ⟨60, x2, 0⟩]⟩) : Option Unit) := by
 simp only [← wrapA_i64]
 kernel_rfl
theorem w_44 (l0 : List S93) (k : AV tau → Mem tau → Option Unit) : fnA E_44 C_44 D_44 Tryd.f44 B_44 [.sl 93 l0] ⟨[], []⟩ k = (brA (decide ((Int.toNat ((l0.length : Nat) : Int)) ≤ 8796093022208)) (LP_44_0 k l0 (0 : Int) (List.replicate (Int.toNat ((l0.length : Nat) : Int)) (⟨(0 : Int), (0 : Int), (0 : Int), (0 : Int)⟩ : S60))) (none) : Option Unit) := by kernel_rfl
def S_44_0 (N : Nat) : Prop := ∀ (k : AV tau → Mem tau → Option Unit) (x0 : (List S93)) (x1 : Int) (x2 : (List S60)) (r : (List (S60))), laws_toInsS.l0 N (x0) (x2) (x1) = some r → k (.own 0 0) ⟨[], [some ⟨60, r, 0⟩]⟩ = some () → LP_44_0 k x0 x1 x2 = some ()
theorem L_44 (N : Nat) : S_44_0 N := by
 induction N using Nat.strongRecOn with | _ N0 ih =>
 skip
 intro k x0 x1 x2 r h hk
 rcases N0 with _ | N
 · cases h
 first | rw [laws_toInsS.l0] at h | simp only [laws_toInsS.l0] at h | (unfold laws_toInsS.l0 at h; dsimp only at h)
 refine loop_fold mC_44 mD_44 ?_
 refine (w_44_0 k x0 x1 x2).trans ?_
 refine br_eti h rfl (fun c13 h => ?_) (fun c13 h => ?_)
 ·cases h; exact hk
 refine br_g h rfl (fun c14 h => ?_)
 refine br_t (by first | (simp [c13]; done) | (simp; omega) | (simp only [List.length_append, List.length_cons, List.length_nil, List.length_take, List.length_drop] at c13 ⊢; simp; omega) | (simp only [List.length_append, List.length_cons, List.length_nil, List.length_take, List.length_drop] at c13; simp; omega) | (simp_all; done)) ?_
 refine call_h 0 h (fun t0 e15 h => ?_)
 refine br_t (by first | (simp [c14]; done) | (simp; omega) | (simp only [List.length_append, List.length_cons, List.length_nil, List.length_take, List.length_drop] at c13 ⊢; simp; omega) | (simp only [List.length_append, List.length_cons, List.length_nil, List.length_take, List.length_drop] at c13; simp; omega) | (simp_all; done)) ?_
 refine br_g h rfl (fun c16 h => ?_)
 exact (ih N (by omega)) _ _ _ _ _ h hk
theorem okc_44 (args : List (AV tau)) (m : Mem tau) (κ : AV tau → Mem tau → Option Unit) (hh : c_44 args m κ = some ()) : ∃ av m1, κ av m1 = some () ∧ ToldA Tryd.prog TT (pnT 44) 44 args m av m1 := by
 obtain ⟨bx_, rw_⟩ := m
 unfold c_44 at hh
 simp only at hh
 split at hh
 case h_2 => cases hh
 rename_i b0
 obtain ⟨l0, hx0, hh0⟩ := bO_some hh
 have ex0 := asSl_some hx0
 subst ex0
 obtain ⟨N, t, h, hκ⟩ := callX_some hh0
 refine ⟨_, _, hκ, told_of_run pq okC_44 (fun _ _ _ => drawA_ok pq okC_44 hmix) (E := E_44) (fn := Tryd.f44) (body := B_44) (by kernel_rfl) (by kernel_rfl) (by kernel_rfl) (by rfl) (by exact Nat.le_of_ble_eq_true rfl) (fun k hk => ?_)⟩
 refine (w_44 l0 k).trans ?_
 replace h : laws_toInsS.f N l0 = some t := h
 unfold laws_toInsS.f at h
 refine ite_x h (fun c17 h => ?_) (fun _ h => by cases h)
 refine br_g h rfl (fun c18 h => ?_)
 exact (L_44 N) _ _ _ _ _ h hk
noncomputable def C_82 : Ctr tau Unit := ctrS 44 c_44 C_44
noncomputable def D_82 : Drw tau := drawA E_82 C_82
theorem okC_82 : CtrOk Tryd.prog TT pnT C_82 := ctrS_ok okC_44 okc_44
theorem mC_82 : CtrMono C_82 := ctrS_mono mC_44 mc_44
theorem mD_82 : DrMono D_82 := drawA_mono mC_82
noncomputable def B_82 : Code := Tryd.f82.body.getD .skip
theorem mc_82 (args : List (AV tau)) (m : Mem tau) (k k' : AV tau → Mem tau → Option Unit) (hk : ∀ av m, k av m = some () → k' av m = some ()) (h : c_82 args m k = some ()) : c_82 args m k' = some () := by
 unfold c_82 at h ⊢
 split at h
 · repeat' first | exact callX_mono (fun _ h => hk _ _ h) h | refine bO_mono (fun _ h => ?_) h
 · cases h
theorem w_82  (k : AV tau → Mem tau → Option Unit) : fnA E_82 C_82 D_82 Tryd.f82 B_82 [] ⟨[], []⟩ k = (k (.own 0 0) ⟨[], [some ⟨9, ([(bs []), (bs [108, 111, 97, 100]), (bs [112, 117, 116]), (bs [110, 117, 109]), (bs [97, 100, 100]), (bs [115, 117, 98]), (bs [108, 101, 115, 115]), (bs [102, 97, 105, 108])] : List ByteArray), 0⟩]⟩ : Option Unit) := by kernel_rfl
theorem okc_82 (args : List (AV tau)) (m : Mem tau) (κ : AV tau → Mem tau → Option Unit) (hh : c_82 args m κ = some ()) : ∃ av m1, κ av m1 = some () ∧ ToldA Tryd.prog TT (pnT 82) 82 args m av m1 := by
 obtain ⟨bx_, rw_⟩ := m
 unfold c_82 at hh
 simp only at hh
 split at hh
 case h_2 => cases hh
 obtain ⟨N, t, h, hκ⟩ := callX_some hh
 refine ⟨_, _, hκ, told_of_run pq okC_82 (fun _ _ _ => drawA_ok pq okC_82 hmix) (E := E_82) (fn := Tryd.f82) (body := B_82) (by kernel_rfl) (by kernel_rfl) (by kernel_rfl) (by rfl) (by exact Nat.le_of_ble_eq_true rfl) (fun k hk => ?_)⟩
 refine (w_82 k).trans ?_
 replace h : spec_l2Words.f N = some t := h
 unfold spec_l2Words.f at h
 cases h; exact hk
noncomputable def C_73 : Ctr tau Unit := ctrS 82 c_82 C_82
noncomputable def D_73 : Drw tau := drawA E_73 C_73
theorem okC_73 : CtrOk Tryd.prog TT pnT C_73 := ctrS_ok okC_82 okc_82
theorem mC_73 : CtrMono C_73 := ctrS_mono mC_82 mc_82
theorem mD_73 : DrMono D_73 := drawA_mono mC_73
noncomputable def B_73 : Code := Tryd.f73.body.getD .skip
theorem mc_73 (args : List (AV tau)) (m : Mem tau) (k k' : AV tau → Mem tau → Option Unit) (hk : ∀ av m, k av m = some () → k' av m = some ()) (h : c_73 args m k = some ()) : c_73 args m k' = some () := by
 unfold c_73 at h ⊢
 split at h
 · repeat' first | exact callX_mono (fun _ h => hk _ _ h) h | refine bO_mono (fun _ h => ?_) h
 · cases h
theorem w_73 (a0_0 : Int) (a0_1 : Int) (a0_2 : Int) (a0_3 : Int) (k : AV tau → Mem tau → Option Unit) : fnA E_73 C_73 D_73 Tryd.f73 B_73 [.agg [.int .i64 a0_0, .int .i64 a0_1, .int .i64 a0_2, .int .i64 a0_3]] ⟨[], []⟩ k = (brA (decide (a0_0 = (1 : Int))) (brA (decide (a0_0 = (1 : Int))) (callX (fun n => spec_l2Words.f n) fun t0 => brA (decide ((0 : Int) ≤ a0_0)) (brA (decide (a0_0 < ((t0.length : Nat) : Int))) (brA (decide (((rdOf (default : ByteArray) t0 a0_0).size + 1) ≤ 9223372036854775807)) (callX (fun n => spec_l15Dec.f n a0_1) fun t1 => brA (decide ((((rdOf (default : ByteArray) t0 a0_0) ++ (bs [32])).size + t1.size) ≤ 9223372036854775807)) (brA (decide (((((rdOf (default : ByteArray) t0 a0_0) ++ (bs [32])) ++ t1).size + 1) ≤ 9223372036854775807)) (callX (fun n => spec_l15Dec.f n a0_2) fun t2 => brA (decide ((((((rdOf (default : ByteArray) t0 a0_0) ++ (bs [32])) ++ t1) ++ (bs [32])).size + t2.size) ≤ 9223372036854775807)) (k (.str (((((rdOf (default : ByteArray) t0 a0_0) ++ (bs [32])) ++ t1) ++ (bs [32])) ++ t2)) ⟨[], []⟩) (none)) (none)) (none)) (none)) (none)) (none)) (brA (decide (a0_0 = (3 : Int))) (callX (fun n => spec_l15Dec.f n a0_1) fun t3 => brA (decide ((4 + t3.size) ≤ 9223372036854775807)) (brA (decide ((((bs [110, 117, 109, 32]) ++ t3).size + 1) ≤ 9223372036854775807)) (callX (fun n => spec_l15Dec.f n a0_3) fun t4 => brA (decide (((((bs [110, 117, 109, 32]) ++ t3) ++ (bs [32])).size + t4.size) ≤ 9223372036854775807)) (k (.str ((((bs [110, 117, 109, 32]) ++ t3) ++ (bs [32])) ++ t4)) ⟨[], []⟩) (none)) (none)) (none)) (brA (decide (a0_0 = (6 : Int))) (callX (fun n => spec_l15Dec.f n a0_1) fun t5 => brA (decide ((5 + t5.size) ≤ 9223372036854775807)) (brA (decide ((((bs [108, 101, 115, 115, 32]) ++ t5).size + 1) ≤ 9223372036854775807)) (callX (fun n => spec_l15Dec.f n a0_2) fun t6 => brA (decide (((((bs [108, 101, 115, 115, 32]) ++ t5) ++ (bs [32])).size + t6.size) ≤ 9223372036854775807)) (brA (decide ((((((bs [108, 101, 115, 115, 32]) ++ t5) ++ (bs [32])) ++ t6).size + 1) ≤ 9223372036854775807)) (callX (fun n => spec_l15Dec.f n a0_3) fun t7 => brA (decide (((((((bs [108, 101, 115, 115, 32]) ++ t5) ++ (bs [32])) ++ t6) ++ (bs [32])).size + t7.size) ≤ 9223372036854775807)) (k (.str ((((((bs [108, 101, 115, 115, 32]) ++ t5) ++ (bs [32])) ++ t6) ++ (bs [32])) ++ t7)) ⟨[], []⟩) (none)) (none)) (none)) (none)) (none)) (brA (decide (a0_0 = (7 : Int))) (k (.str (bs [102, 97, 105, 108])) ⟨[], []⟩) (k (.str (bs [110, 111, 110, 101])) ⟨[], []⟩))))) (brA (decide (a0_0 = (2 : Int))) (brA (decide (a0_0 = (2 : Int))) (callX (fun n => spec_l2Words.f n) fun t8 => brA (decide ((0 : Int) ≤ a0_0)) (brA (decide (a0_0 < ((t8.length : Nat) : Int))) (brA (decide (((rdOf (default : ByteArray) t8 a0_0).size + 1) ≤ 9223372036854775807)) (callX (fun n => spec_l15Dec.f n a0_1) fun t9 => brA (decide ((((rdOf (default : ByteArray) t8 a0_0) ++ (bs [32])).size + t9.size) ≤ 9223372036854775807)) (brA (decide (((((rdOf (default : ByteArray) t8 a0_0) ++ (bs [32])) ++ t9).size + 1) ≤ 9223372036854775807)) (callX (fun n => spec_l15Dec.f n a0_2) fun t10 => brA (decide ((((((rdOf (default : ByteArray) t8 a0_0) ++ (bs [32])) ++ t9) ++ (bs [32])).size + t10.size) ≤ 9223372036854775807)) (k (.str (((((rdOf (default : ByteArray) t8 a0_0) ++ (bs [32])) ++ t9) ++ (bs [32])) ++ t10)) ⟨[], []⟩) (none)) (none)) (none)) (none)) (none)) (none)) (brA (decide (a0_0 = (3 : Int))) (callX (fun n => spec_l15Dec.f n a0_1) fun t11 => brA (decide ((4 + t11.size) ≤ 9223372036854775807)) (brA (decide ((((bs [110, 117, 109, 32]) ++ t11).size + 1) ≤ 9223372036854775807)) (callX (fun n => spec_l15Dec.f n a0_3) fun t12 => brA (decide (((((bs [110, 117, 109, 32]) ++ t11) ++ (bs [32])).size + t12.size) ≤ 9223372036854775807)) (k (.str ((((bs [110, 117, 109, 32]) ++ t11) ++ (bs [32])) ++ t12)) ⟨[], []⟩) (none)) (none)) (none)) (brA (decide (a0_0 = (6 : Int))) (callX (fun n => spec_l15Dec.f n a0_1) fun t13 => brA (decide ((5 + t13.size) ≤ 9223372036854775807)) (brA (decide ((((bs [108, 101, 115, 115, 32]) ++ t13).size + 1) ≤ 9223372036854775807)) (callX (fun n => spec_l15Dec.f n a0_2) fun t14 => brA (decide (((((bs [108, 101, 115, 115, 32]) ++ t13) ++ (bs [32])).size + t14.size) ≤ 9223372036854775807)) (brA (decide ((((((bs [108, 101, 115, 115, 32]) ++ t13) ++ (bs [32])) ++ t14).size + 1) ≤ 9223372036854775807)) (callX (fun n => spec_l15Dec.f n a0_3) fun t15 => brA (decide (((((((bs [108, 101, 115, 115, 32]) ++ t13) ++ (bs [32])) ++ t14) ++ (bs [32])).size + t15.size) ≤ 9223372036854775807)) (k (.str ((((((bs [108, 101, 115, 115, 32]) ++ t13) ++ (bs [32])) ++ t14) ++ (bs [32])) ++ t15)) ⟨[], []⟩) (none)) (none)) (none)) (none)) (none)) (brA (decide (a0_0 = (7 : Int))) (k (.str (bs [102, 97, 105, 108])) ⟨[], []⟩) (k (.str (bs [110, 111, 110, 101])) ⟨[], []⟩))))) (brA (decide (a0_0 = (4 : Int))) (brA (decide (a0_0 = (4 : Int))) (callX (fun n => spec_l2Words.f n) fun t16 => brA (decide ((0 : Int) ≤ a0_0)) (brA (decide (a0_0 < ((t16.length : Nat) : Int))) (brA (decide (((rdOf (default : ByteArray) t16 a0_0).size + 1) ≤ 9223372036854775807)) (callX (fun n => spec_l15Dec.f n a0_1) fun t17 => brA (decide ((((rdOf (default : ByteArray) t16 a0_0) ++ (bs [32])).size + t17.size) ≤ 9223372036854775807)) (brA (decide (((((rdOf (default : ByteArray) t16 a0_0) ++ (bs [32])) ++ t17).size + 1) ≤ 9223372036854775807)) (callX (fun n => spec_l15Dec.f n a0_2) fun t18 => brA (decide ((((((rdOf (default : ByteArray) t16 a0_0) ++ (bs [32])) ++ t17) ++ (bs [32])).size + t18.size) ≤ 9223372036854775807)) (k (.str (((((rdOf (default : ByteArray) t16 a0_0) ++ (bs [32])) ++ t17) ++ (bs [32])) ++ t18)) ⟨[], []⟩) (none)) (none)) (none)) (none)) (none)) (none)) (brA (decide (a0_0 = (3 : Int))) (callX (fun n => spec_l15Dec.f n a0_1) fun t19 => brA (decide ((4 + t19.size) ≤ 9223372036854775807)) (brA (decide ((((bs [110, 117, 109, 32]) ++ t19).size + 1) ≤ 9223372036854775807)) (callX (fun n => spec_l15Dec.f n a0_3) fun t20 => brA (decide (((((bs [110, 117, 109, 32]) ++ t19) ++ (bs [32])).size + t20.size) ≤ 9223372036854775807)) (k (.str ((((bs [110, 117, 109, 32]) ++ t19) ++ (bs [32])) ++ t20)) ⟨[], []⟩) (none)) (none)) (none)) (brA (decide (a0_0 = (6 : Int))) (callX (fun n => spec_l15Dec.f n a0_1) fun t21 => brA (decide ((5 + t21.size) ≤ 9223372036854775807)) (brA (decide ((((bs [108, 101, 115, 115, 32]) ++ t21).size + 1) ≤ 9223372036854775807)) (callX (fun n => spec_l15Dec.f n a0_2) fun t22 => brA (decide (((((bs [108, 101, 115, 115, 32]) ++ t21) ++ (bs [32])).size + t22.size) ≤ 9223372036854775807)) (brA (decide ((((((bs [108, 101, 115, 115, 32]) ++ t21) ++ (bs [32])) ++ t22).size + 1) ≤ 9223372036854775807)) (callX (fun n => spec_l15Dec.f n a0_3) fun t23 => brA (decide (((((((bs [108, 101, 115, 115, 32]) ++ t21) ++ (bs [32])) ++ t22) ++ (bs [32])).size + t23.size) ≤ 9223372036854775807)) (k (.str ((((((bs [108, 101, 115, 115, 32]) ++ t21) ++ (bs [32])) ++ t22) ++ (bs [32])) ++ t23)) ⟨[], []⟩) (none)) (none)) (none)) (none)) (none)) (brA (decide (a0_0 = (7 : Int))) (k (.str (bs [102, 97, 105, 108])) ⟨[], []⟩) (k (.str (bs [110, 111, 110, 101])) ⟨[], []⟩))))) (brA (decide (a0_0 = (5 : Int))) (callX (fun n => spec_l2Words.f n) fun t24 => brA (decide ((0 : Int) ≤ a0_0)) (brA (decide (a0_0 < ((t24.length : Nat) : Int))) (brA (decide (((rdOf (default : ByteArray) t24 a0_0).size + 1) ≤ 9223372036854775807)) (callX (fun n => spec_l15Dec.f n a0_1) fun t25 => brA (decide ((((rdOf (default : ByteArray) t24 a0_0) ++ (bs [32])).size + t25.size) ≤ 9223372036854775807)) (brA (decide (((((rdOf (default : ByteArray) t24 a0_0) ++ (bs [32])) ++ t25).size + 1) ≤ 9223372036854775807)) (callX (fun n => spec_l15Dec.f n a0_2) fun t26 => brA (decide ((((((rdOf (default : ByteArray) t24 a0_0) ++ (bs [32])) ++ t25) ++ (bs [32])).size + t26.size) ≤ 9223372036854775807)) (k (.str (((((rdOf (default : ByteArray) t24 a0_0) ++ (bs [32])) ++ t25) ++ (bs [32])) ++ t26)) ⟨[], []⟩) (none)) (none)) (none)) (none)) (none)) (none)) (brA (decide (a0_0 = (3 : Int))) (callX (fun n => spec_l15Dec.f n a0_1) fun t27 => brA (decide ((4 + t27.size) ≤ 9223372036854775807)) (brA (decide ((((bs [110, 117, 109, 32]) ++ t27).size + 1) ≤ 9223372036854775807)) (callX (fun n => spec_l15Dec.f n a0_3) fun t28 => brA (decide (((((bs [110, 117, 109, 32]) ++ t27) ++ (bs [32])).size + t28.size) ≤ 9223372036854775807)) (k (.str ((((bs [110, 117, 109, 32]) ++ t27) ++ (bs [32])) ++ t28)) ⟨[], []⟩) (none)) (none)) (none)) (brA (decide (a0_0 = (6 : Int))) (callX (fun n => spec_l15Dec.f n a0_1) fun t29 => brA (decide ((5 + t29.size) ≤ 9223372036854775807)) (brA (decide ((((bs [108, 101, 115, 115, 32]) ++ t29).size + 1) ≤ 9223372036854775807)) (callX (fun n => spec_l15Dec.f n a0_2) fun t30 => brA (decide (((((bs [108, 101, 115, 115, 32]) ++ t29) ++ (bs [32])).size + t30.size) ≤ 9223372036854775807)) (brA (decide ((((((bs [108, 101, 115, 115, 32]) ++ t29) ++ (bs [32])) ++ t30).size + 1) ≤ 9223372036854775807)) (callX (fun n => spec_l15Dec.f n a0_3) fun t31 => brA (decide (((((((bs [108, 101, 115, 115, 32]) ++ t29) ++ (bs [32])) ++ t30) ++ (bs [32])).size + t31.size) ≤ 9223372036854775807)) (k (.str ((((((bs [108, 101, 115, 115, 32]) ++ t29) ++ (bs [32])) ++ t30) ++ (bs [32])) ++ t31)) ⟨[], []⟩) (none)) (none)) (none)) (none)) (none)) (brA (decide (a0_0 = (7 : Int))) (k (.str (bs [102, 97, 105, 108])) ⟨[], []⟩) (k (.str (bs [110, 111, 110, 101])) ⟨[], []⟩))))))) : Option Unit) := by kernel_rfl
theorem okc_73 (args : List (AV tau)) (m : Mem tau) (κ : AV tau → Mem tau → Option Unit) (hh : c_73 args m κ = some ()) : ∃ av m1, κ av m1 = some () ∧ ToldA Tryd.prog TT (pnT 73) 73 args m av m1 := by
 obtain ⟨bx_, rw_⟩ := m
 unfold c_73 at hh
 simp only at hh
 split at hh
 case h_2 => cases hh
 rename_i b0 b1 b2 b3
 obtain ⟨a0_0, hx0, hh0⟩ := bO_some hh
 obtain ⟨a0_1, hx1, hh1⟩ := bO_some hh0
 obtain ⟨a0_2, hx2, hh2⟩ := bO_some hh1
 obtain ⟨a0_3, hx3, hh3⟩ := bO_some hh2
 have ex0 := asI_some hx0
 have ex1 := asI_some hx1
 have ex2 := asI_some hx2
 have ex3 := asI_some hx3
 subst ex0 ex1 ex2 ex3
 obtain ⟨N, t, h, hκ⟩ := callX_some hh3
 refine ⟨_, _, hκ, told_of_run pq okC_73 (fun _ _ _ => drawA_ok pq okC_73 hmix) (E := E_73) (fn := Tryd.f73) (body := B_73) (by kernel_rfl) (by kernel_rfl) (by kernel_rfl) (by rfl) (by exact Nat.le_of_ble_eq_true rfl) (fun k hk => ?_)⟩
 refine (w_73 a0_0 a0_1 a0_2 a0_3 k).trans ?_
 replace h : spec_l2Text.f N a0_0 a0_1 a0_2 a0_3 = some t := h
 unfold spec_l2Text.f at h
 refine br_ite h rfl (fun c108 h => ?_) (fun c108 h => ?_)
 ·refine br_ite h rfl (fun c109 h => ?_) (fun c109 h => ?_)
  ·refine call_h N h (fun t0 e110 h => ?_)
   refine br_g h rfl (fun c111 h => ?_)
   refine br_g h rfl (fun c112 h => ?_)
   refine br_g h rfl (fun c113 h => ?_)
   refine call_h N h (fun t1 e114 h => ?_)
   refine br_g h rfl (fun c115 h => ?_)
   refine br_g h rfl (fun c116 h => ?_)
   refine call_h N h (fun t2 e117 h => ?_)
   refine br_g h rfl (fun c118 h => ?_)
   cases h; exact hk
  refine br_ite h rfl (fun c119 h => ?_) (fun c119 h => ?_)
  ·refine call_h N h (fun t3 e120 h => ?_)
   refine br_g h rfl (fun c121 h => ?_)
   refine br_g h rfl (fun c122 h => ?_)
   refine call_h N h (fun t4 e123 h => ?_)
   refine br_g h rfl (fun c124 h => ?_)
   cases h; exact hk
  refine br_eti h rfl (fun c125 h => ?_) (fun c125 h => ?_)
  ·refine br_ite h rfl (fun c126 h => ?_) (fun c126 h => ?_)
   ·cases h; exact hk
   cases h; exact hk
  refine call_h N h (fun t5 e127 h => ?_)
  refine br_g h rfl (fun c128 h => ?_)
  refine br_g h rfl (fun c129 h => ?_)
  refine call_h N h (fun t6 e130 h => ?_)
  refine br_g h rfl (fun c131 h => ?_)
  refine br_g h rfl (fun c132 h => ?_)
  refine call_h N h (fun t7 e133 h => ?_)
  refine br_g h rfl (fun c134 h => ?_)
  cases h; exact hk
 refine br_ite h rfl (fun c135 h => ?_) (fun c135 h => ?_)
 ·refine br_ite h rfl (fun c136 h => ?_) (fun c136 h => ?_)
  ·refine call_h N h (fun t8 e137 h => ?_)
   refine br_g h rfl (fun c138 h => ?_)
   refine br_g h rfl (fun c139 h => ?_)
   refine br_g h rfl (fun c140 h => ?_)
   refine call_h N h (fun t9 e141 h => ?_)
   refine br_g h rfl (fun c142 h => ?_)
   refine br_g h rfl (fun c143 h => ?_)
   refine call_h N h (fun t10 e144 h => ?_)
   refine br_g h rfl (fun c145 h => ?_)
   cases h; exact hk
  refine br_ite h rfl (fun c146 h => ?_) (fun c146 h => ?_)
  ·refine call_h N h (fun t11 e147 h => ?_)
   refine br_g h rfl (fun c148 h => ?_)
   refine br_g h rfl (fun c149 h => ?_)
   refine call_h N h (fun t12 e150 h => ?_)
   refine br_g h rfl (fun c151 h => ?_)
   cases h; exact hk
  refine br_eti h rfl (fun c152 h => ?_) (fun c152 h => ?_)
  ·refine br_ite h rfl (fun c153 h => ?_) (fun c153 h => ?_)
   ·cases h; exact hk
   cases h; exact hk
  refine call_h N h (fun t13 e154 h => ?_)
  refine br_g h rfl (fun c155 h => ?_)
  refine br_g h rfl (fun c156 h => ?_)
  refine call_h N h (fun t14 e157 h => ?_)
  refine br_g h rfl (fun c158 h => ?_)
  refine br_g h rfl (fun c159 h => ?_)
  refine call_h N h (fun t15 e160 h => ?_)
  refine br_g h rfl (fun c161 h => ?_)
  cases h; exact hk
 refine br_ite h rfl (fun c162 h => ?_) (fun c162 h => ?_)
 ·refine br_ite h rfl (fun c163 h => ?_) (fun c163 h => ?_)
  ·refine call_h N h (fun t16 e164 h => ?_)
   refine br_g h rfl (fun c165 h => ?_)
   refine br_g h rfl (fun c166 h => ?_)
   refine br_g h rfl (fun c167 h => ?_)
   refine call_h N h (fun t17 e168 h => ?_)
   refine br_g h rfl (fun c169 h => ?_)
   refine br_g h rfl (fun c170 h => ?_)
   refine call_h N h (fun t18 e171 h => ?_)
   refine br_g h rfl (fun c172 h => ?_)
   cases h; exact hk
  refine br_ite h rfl (fun c173 h => ?_) (fun c173 h => ?_)
  ·refine call_h N h (fun t19 e174 h => ?_)
   refine br_g h rfl (fun c175 h => ?_)
   refine br_g h rfl (fun c176 h => ?_)
   refine call_h N h (fun t20 e177 h => ?_)
   refine br_g h rfl (fun c178 h => ?_)
   cases h; exact hk
  refine br_eti h rfl (fun c179 h => ?_) (fun c179 h => ?_)
  ·refine br_ite h rfl (fun c180 h => ?_) (fun c180 h => ?_)
   ·cases h; exact hk
   cases h; exact hk
  refine call_h N h (fun t21 e181 h => ?_)
  refine br_g h rfl (fun c182 h => ?_)
  refine br_g h rfl (fun c183 h => ?_)
  refine call_h N h (fun t22 e184 h => ?_)
  refine br_g h rfl (fun c185 h => ?_)
  refine br_g h rfl (fun c186 h => ?_)
  refine call_h N h (fun t23 e187 h => ?_)
  refine br_g h rfl (fun c188 h => ?_)
  cases h; exact hk
 refine br_ite h rfl (fun c189 h => ?_) (fun c189 h => ?_)
 ·refine call_h N h (fun t24 e190 h => ?_)
  refine br_g h rfl (fun c191 h => ?_)
  refine br_g h rfl (fun c192 h => ?_)
  refine br_g h rfl (fun c193 h => ?_)
  refine call_h N h (fun t25 e194 h => ?_)
  refine br_g h rfl (fun c195 h => ?_)
  refine br_g h rfl (fun c196 h => ?_)
  refine call_h N h (fun t26 e197 h => ?_)
  refine br_g h rfl (fun c198 h => ?_)
  cases h; exact hk
 refine br_ite h rfl (fun c199 h => ?_) (fun c199 h => ?_)
 ·refine call_h N h (fun t27 e200 h => ?_)
  refine br_g h rfl (fun c201 h => ?_)
  refine br_g h rfl (fun c202 h => ?_)
  refine call_h N h (fun t28 e203 h => ?_)
  refine br_g h rfl (fun c204 h => ?_)
  cases h; exact hk
 refine br_eti h rfl (fun c205 h => ?_) (fun c205 h => ?_)
 ·refine br_ite h rfl (fun c206 h => ?_) (fun c206 h => ?_)
  ·cases h; exact hk
  cases h; exact hk
 refine call_h N h (fun t29 e207 h => ?_)
 refine br_g h rfl (fun c208 h => ?_)
 refine br_g h rfl (fun c209 h => ?_)
 refine call_h N h (fun t30 e210 h => ?_)
 refine br_g h rfl (fun c211 h => ?_)
 refine br_g h rfl (fun c212 h => ?_)
 refine call_h N h (fun t31 e213 h => ?_)
 refine br_g h rfl (fun c214 h => ?_)
 cases h; exact hk
noncomputable def C_28 : Ctr tau Unit := ctrS 73 c_73 C_73
noncomputable def D_28 : Drw tau := drawA E_28 C_28
theorem okC_28 : CtrOk Tryd.prog TT pnT C_28 := ctrS_ok okC_73 okc_73
theorem mC_28 : CtrMono C_28 := ctrS_mono mC_73 mc_73
theorem mD_28 : DrMono D_28 := drawA_mono mC_28
noncomputable def B_28 : Code := Tryd.f28.body.getD .skip
theorem mc_28 (args : List (AV tau)) (m : Mem tau) (k k' : AV tau → Mem tau → Option Unit) (hk : ∀ av m, k av m = some () → k' av m = some ()) (h : c_28 args m k = some ()) : c_28 args m k' = some () := by
 unfold c_28 at h ⊢
 split at h
 · repeat' first | exact callX_mono (fun _ h => hk _ _ h) h | refine bO_mono (fun _ h => ?_) h
 · cases h
noncomputable def K_28_0 (k : AV tau → Mem tau → Option Unit) : Kon tau := (kBlock 0 (kS E_28 C_28 D_28 (codeP B_28 [1, 1, 1]) (kEnd E_28 Tryd.f28 k)))
def st_28_0 (x0 : (List S60)) (x1 : ByteArray) (x2 : Int) : St tau := ⟨tmL 23 0 [(0, .sl 60 x0), (3, .str x1), (4, .int .i64 x2)], ⟨[], []⟩⟩
noncomputable def LP_28_0 (k : AV tau → Mem tau → Option Unit) (x0 : (List S60)) (x1 : ByteArray) (x2 : Int) : Option Unit := loopA E_28 (codeA E_28 C_28 D_28 (codeP B_28 [1, 1, 0, 1, 0, 0])) (codeP B_28 [1, 1, 0, 1, 0, 0]) (K_28_0 k) (st_28_0 x0 x1 x2)
theorem w_28_0 (k : AV tau → Mem tau → Option Unit) (x0 : (List S60)) (x1 : ByteArray) (x2 : Int) : codeA E_28 C_28 D_28 (codeP B_28 [1, 1, 0, 1, 0, 0]) (kL E_28 C_28 D_28 (codeP B_28 [1, 1, 0, 1, 0, 0]) (K_28_0 k)) (st_28_0 x0 x1 x2) = (brA (decide (x2 < ((x0.length : Nat) : Int))) (brA (decide (x2 > (0 : Int))) (brA (decide ((x1.size + 1) ≤ 9223372036854775807)) (brA (decide ((0 : Int) ≤ x2)) (brA (decide (x2 < ((x0.length : Nat) : Int))) (callX (fun n => spec_l2Text.f n ((rd_T60 x0 x2).f0) ((rd_T60 x0 x2).f1) ((rd_T60 x0 x2).f2) ((rd_T60 x0 x2).f3)) fun t0 => brA (decide (((x1 ++ (bs [44])).size + t0.size) ≤ 9223372036854775807)) (LP_28_0 k x0 ((x1 ++ (bs [44])) ++ t0) (wrap64 (x2 + (1 : Int)))) (none)) (none)) (none)) (none)) (brA (decide ((0 : Int) ≤ x2)) (brA (decide (x2 < ((x0.length : Nat) : Int))) (callX (fun n => spec_l2Text.f n ((rd_T60 x0 x2).f0) ((rd_T60 x0 x2).f1) ((rd_T60 x0 x2).f2) ((rd_T60 x0 x2).f3)) fun t1 => brA (decide ((x1.size + t1.size) ≤ 9223372036854775807)) (LP_28_0 k x0 (x1 ++ t1) (wrap64 (x2 + (1 : Int)))) (none)) (none)) (none))) (k (.str x1) ⟨[], []⟩) : Option Unit) := by
 simp only [← wrapA_i64]
 kernel_rfl
theorem w_28 (l0 : List S60) (k : AV tau → Mem tau → Option Unit) : fnA E_28 C_28 D_28 Tryd.f28 B_28 [.sl 60 l0] ⟨[], []⟩ k = (LP_28_0 k l0 (bs []) (0 : Int) : Option Unit) := by kernel_rfl
def S_28_0 (N : Nat) : Prop := ∀ (k : AV tau → Mem tau → Option Unit) (x0 : (List S60)) (x1 : ByteArray) (x2 : Int) (r : ByteArray), spec_ProgText.l0 N (x0) (x1) (x2) = some r → k (.str (r)) ⟨[], []⟩ = some () → LP_28_0 k x0 x1 x2 = some ()
theorem L_28 (N : Nat) : S_28_0 N := by
 induction N using Nat.strongRecOn with | _ N0 ih =>
 skip
 intro k x0 x1 x2 r h hk
 rcases N0 with _ | N
 · cases h
 first | rw [spec_ProgText.l0] at h | simp only [spec_ProgText.l0] at h | (unfold spec_ProgText.l0 at h; dsimp only at h)
 refine loop_fold mC_28 mD_28 ?_
 refine (w_28_0 k x0 x1 x2).trans ?_
 refine br_eti h rfl (fun c23 h => ?_) (fun c23 h => ?_)
 ·cases h; exact hk
 refine br_eti h rfl (fun c24 h => ?_) (fun c24 h => ?_)
 ·refine br_g h rfl (fun c25 h => ?_)
  refine br_g h rfl (fun c26 h => ?_)
  refine call_h N h (fun t1 e27 h => ?_)
  refine br_g h rfl (fun c28 h => ?_)
  exact (ih N (by omega)) _ _ _ _ _ h hk
 refine br_g h rfl (fun c29 h => ?_)
 refine br_g h rfl (fun c30 h => ?_)
 refine br_g h rfl (fun c31 h => ?_)
 refine call_h N h (fun t0 e32 h => ?_)
 refine br_g h rfl (fun c33 h => ?_)
 exact (ih N (by omega)) _ _ _ _ _ h hk
theorem okc_28 (args : List (AV tau)) (m : Mem tau) (κ : AV tau → Mem tau → Option Unit) (hh : c_28 args m κ = some ()) : ∃ av m1, κ av m1 = some () ∧ ToldA Tryd.prog TT (pnT 28) 28 args m av m1 := by
 obtain ⟨bx_, rw_⟩ := m
 unfold c_28 at hh
 simp only at hh
 split at hh
 case h_2 => cases hh
 rename_i b0
 obtain ⟨l0, hx0, hh0⟩ := bO_some hh
 have ex0 := asSl_some hx0
 subst ex0
 obtain ⟨N, t, h, hκ⟩ := callX_some hh0
 refine ⟨_, _, hκ, told_of_run pq okC_28 (fun _ _ _ => drawA_ok pq okC_28 hmix) (E := E_28) (fn := Tryd.f28) (body := B_28) (by kernel_rfl) (by kernel_rfl) (by kernel_rfl) (by rfl) (by exact Nat.le_of_ble_eq_true rfl) (fun k hk => ?_)⟩
 refine (w_28 l0 k).trans ?_
 replace h : spec_ProgText.f N l0 = some t := h
 unfold spec_ProgText.f at h
 exact (L_28 N) _ _ _ _ _ h hk
noncomputable def C_72 : Ctr tau Unit := ctrS 28 c_28 C_28
noncomputable def D_72 : Drw tau := drawA E_72 C_72
theorem okC_72 : CtrOk Tryd.prog TT pnT C_72 := ctrS_ok okC_28 okc_28
theorem mC_72 : CtrMono C_72 := ctrS_mono mC_28 mc_28
theorem mD_72 : DrMono D_72 := drawA_mono mC_72
noncomputable def B_72 : Code := Tryd.f72.body.getD .skip
theorem mc_72 (args : List (AV tau)) (m : Mem tau) (k k' : AV tau → Mem tau → Option Unit) (hk : ∀ av m, k av m = some () → k' av m = some ()) (h : c_72 args m k = some ()) : c_72 args m k' = some () := by
 unfold c_72 at h ⊢
 split at h
 · repeat' first | exact callX_mono (fun _ h => hk _ _ h) h | refine bO_mono (fun _ h => ?_) h
 · cases h
theorem w_72 (a0_0 : Int) (a0_1 : Int) (a0_2 : Int) (a0_3 : Int) (k : AV tau → Mem tau → Option Unit) : fnA E_72 C_72 D_72 Tryd.f72 B_72 [.agg [.int .i64 a0_0, .int .i64 a0_1, .int .i64 a0_2, .int .i64 a0_3]] ⟨[], []⟩ k = (callX (fun n => strconv_Itoa.f n a0_1) fun t0 => brA (decide ((1 + t0.size) ≤ 9223372036854775807)) (callX (fun n => strconv_Itoa.f n a0_2) fun t1 => brA (decide ((1 + t1.size) ≤ 9223372036854775807)) (callX (fun n => strconv_Itoa.f n a0_3) fun t2 => brA (decide ((1 + t2.size) ≤ 9223372036854775807)) (brA (decide (a0_0 = (1 : Int))) (brA (decide ((4 + ((bs [32]) ++ t0).size) ≤ 9223372036854775807)) (brA (decide ((((bs [108, 111, 97, 100]) ++ ((bs [32]) ++ t0)).size + ((bs [32]) ++ t1).size) ≤ 9223372036854775807)) (k (.str (((bs [108, 111, 97, 100]) ++ ((bs [32]) ++ t0)) ++ ((bs [32]) ++ t1))) ⟨[], []⟩) (none)) (none)) (brA (decide (a0_0 = (2 : Int))) (brA (decide ((3 + ((bs [32]) ++ t0).size) ≤ 9223372036854775807)) (brA (decide ((((bs [112, 117, 116]) ++ ((bs [32]) ++ t0)).size + ((bs [32]) ++ t1).size) ≤ 9223372036854775807)) (k (.str (((bs [112, 117, 116]) ++ ((bs [32]) ++ t0)) ++ ((bs [32]) ++ t1))) ⟨[], []⟩) (none)) (none)) (brA (decide (a0_0 = (3 : Int))) (brA (decide ((3 + ((bs [32]) ++ t0).size) ≤ 9223372036854775807)) (brA (decide ((((bs [110, 117, 109]) ++ ((bs [32]) ++ t0)).size + ((bs [32]) ++ t2).size) ≤ 9223372036854775807)) (k (.str (((bs [110, 117, 109]) ++ ((bs [32]) ++ t0)) ++ ((bs [32]) ++ t2))) ⟨[], []⟩) (none)) (none)) (brA (decide (a0_0 = (4 : Int))) (brA (decide ((3 + ((bs [32]) ++ t0).size) ≤ 9223372036854775807)) (brA (decide ((((bs [97, 100, 100]) ++ ((bs [32]) ++ t0)).size + ((bs [32]) ++ t1).size) ≤ 9223372036854775807)) (k (.str (((bs [97, 100, 100]) ++ ((bs [32]) ++ t0)) ++ ((bs [32]) ++ t1))) ⟨[], []⟩) (none)) (none)) (brA (decide (a0_0 = (5 : Int))) (brA (decide ((3 + ((bs [32]) ++ t0).size) ≤ 9223372036854775807)) (brA (decide ((((bs [115, 117, 98]) ++ ((bs [32]) ++ t0)).size + ((bs [32]) ++ t1).size) ≤ 9223372036854775807)) (k (.str (((bs [115, 117, 98]) ++ ((bs [32]) ++ t0)) ++ ((bs [32]) ++ t1))) ⟨[], []⟩) (none)) (none)) (brA (decide (a0_0 = (6 : Int))) (brA (decide ((4 + ((bs [32]) ++ t0).size) ≤ 9223372036854775807)) (brA (decide ((((bs [108, 101, 115, 115]) ++ ((bs [32]) ++ t0)).size + ((bs [32]) ++ t1).size) ≤ 9223372036854775807)) (brA (decide (((((bs [108, 101, 115, 115]) ++ ((bs [32]) ++ t0)) ++ ((bs [32]) ++ t1)).size + ((bs [32]) ++ t2).size) ≤ 9223372036854775807)) (k (.str ((((bs [108, 101, 115, 115]) ++ ((bs [32]) ++ t0)) ++ ((bs [32]) ++ t1)) ++ ((bs [32]) ++ t2))) ⟨[], []⟩) (none)) (none)) (none)) (brA (decide (a0_0 = (7 : Int))) (k (.str (bs [102, 97, 105, 108])) ⟨[], []⟩) (k (.str (bs [110, 111, 110, 101])) ⟨[], []⟩)))))))) (none)) (none)) (none) : Option Unit) := by kernel_rfl
theorem okc_72 (args : List (AV tau)) (m : Mem tau) (κ : AV tau → Mem tau → Option Unit) (hh : c_72 args m κ = some ()) : ∃ av m1, κ av m1 = some () ∧ ToldA Tryd.prog TT (pnT 72) 72 args m av m1 := by
 obtain ⟨bx_, rw_⟩ := m
 unfold c_72 at hh
 simp only at hh
 split at hh
 case h_2 => cases hh
 rename_i b0 b1 b2 b3
 obtain ⟨a0_0, hx0, hh0⟩ := bO_some hh
 obtain ⟨a0_1, hx1, hh1⟩ := bO_some hh0
 obtain ⟨a0_2, hx2, hh2⟩ := bO_some hh1
 obtain ⟨a0_3, hx3, hh3⟩ := bO_some hh2
 have ex0 := asI_some hx0
 have ex1 := asI_some hx1
 have ex2 := asI_some hx2
 have ex3 := asI_some hx3
 subst ex0 ex1 ex2 ex3
 obtain ⟨N, t, h, hκ⟩ := callX_some hh3
 refine ⟨_, _, hκ, told_of_run pq okC_72 (fun _ _ _ => drawA_ok pq okC_72 hmix) (E := E_72) (fn := Tryd.f72) (body := B_72) (by kernel_rfl) (by kernel_rfl) (by kernel_rfl) (by rfl) (by exact Nat.le_of_ble_eq_true rfl) (fun k hk => ?_)⟩
 refine (w_72 a0_0 a0_1 a0_2 a0_3 k).trans ?_
 replace h : impl_insText.f N a0_0 a0_1 a0_2 a0_3 = some t := h
 unfold impl_insText.f at h
 refine call_h N h (fun t0 e27 h => ?_)
 refine br_g h rfl (fun c28 h => ?_)
 refine call_h N h (fun t1 e29 h => ?_)
 refine br_g h rfl (fun c30 h => ?_)
 refine call_h N h (fun t2 e31 h => ?_)
 refine br_g h rfl (fun c32 h => ?_)
 refine br_ite h rfl (fun c33 h => ?_) (fun c33 h => ?_)
 ·refine br_g h rfl (fun c34 h => ?_)
  refine br_g h rfl (fun c35 h => ?_)
  cases h; exact hk
 refine br_ite h rfl (fun c36 h => ?_) (fun c36 h => ?_)
 ·refine br_g h rfl (fun c37 h => ?_)
  refine br_g h rfl (fun c38 h => ?_)
  cases h; exact hk
 refine br_ite h rfl (fun c39 h => ?_) (fun c39 h => ?_)
 ·refine br_g h rfl (fun c40 h => ?_)
  refine br_g h rfl (fun c41 h => ?_)
  cases h; exact hk
 refine br_ite h rfl (fun c42 h => ?_) (fun c42 h => ?_)
 ·refine br_g h rfl (fun c43 h => ?_)
  refine br_g h rfl (fun c44 h => ?_)
  cases h; exact hk
 refine br_ite h rfl (fun c45 h => ?_) (fun c45 h => ?_)
 ·refine br_g h rfl (fun c46 h => ?_)
  refine br_g h rfl (fun c47 h => ?_)
  cases h; exact hk
 refine br_eti h rfl (fun c48 h => ?_) (fun c48 h => ?_)
 ·refine br_ite h rfl (fun c49 h => ?_) (fun c49 h => ?_)
  ·cases h; exact hk
  cases h; exact hk
 refine br_g h rfl (fun c50 h => ?_)
 refine br_g h rfl (fun c51 h => ?_)
 refine br_g h rfl (fun c52 h => ?_)
 cases h; exact hk
noncomputable def C_27 : Ctr tau Unit := ctrS 72 c_72 C_72
noncomputable def D_27 : Drw tau := drawA E_27 C_27
theorem okC_27 : CtrOk Tryd.prog TT pnT C_27 := ctrS_ok okC_72 okc_72
theorem mC_27 : CtrMono C_27 := ctrS_mono mC_72 mc_72
theorem mD_27 : DrMono D_27 := drawA_mono mC_27
noncomputable def B_27 : Code := Tryd.f27.body.getD .skip
theorem mc_27 (args : List (AV tau)) (m : Mem tau) (k k' : AV tau → Mem tau → Option Unit) (hk : ∀ av m, k av m = some () → k' av m = some ()) (h : c_27 args m k = some ()) : c_27 args m k' = some () := by
 unfold c_27 at h ⊢
 split at h
 · repeat' first | exact callX_mono (fun _ h => hk _ _ h) h | refine bO_mono (fun _ h => ?_) h
 · cases h
noncomputable def K_27_0 (k : AV tau → Mem tau → Option Unit) : Kon tau := (kBlock 0 (kS E_27 C_27 D_27 (codeP B_27 [1, 1, 1]) (kEnd E_27 Tryd.f27 k)))
def st_27_0 (x0 : (List S60)) (x1 : Int) (x2 : Int) (x3 : (List ByteArray)) : St tau := ⟨tmL 20 0 [(3, .own 0 0), (6, .sl 60 x0), (7, .int .i64 x1), (8, .int .i64 x2)], ⟨[], [some ⟨9, x3, 0⟩]⟩⟩
noncomputable def LP_27_0 (k : AV tau → Mem tau → Option Unit) (x0 : (List S60)) (x1 : Int) (x2 : Int) (x3 : (List ByteArray)) : Option Unit := loopA E_27 (codeA E_27 C_27 D_27 (codeP B_27 [1, 1, 0, 1, 0, 0])) (codeP B_27 [1, 1, 0, 1, 0, 0]) (K_27_0 k) (st_27_0 x0 x1 x2 x3)
theorem w_27_0 (k : AV tau → Mem tau → Option Unit) (x0 : (List S60)) (x1 : Int) (x2 : Int) (x3 : (List ByteArray)) : codeA E_27 C_27 D_27 (codeP B_27 [1, 1, 0, 1, 0, 0]) (kL E_27 C_27 D_27 (codeP B_27 [1, 1, 0, 1, 0, 0]) (K_27_0 k)) (st_27_0 x0 x1 x2 x3) = (brA (decide (x2 < x1)) (brA (decide ((0 : Int) ≤ x2)) (brA (decide (x2 < ((x0.length : Nat) : Int))) (callX (fun n => impl_insText.f n ((rd_T60 x0 x2).f0) ((rd_T60 x0 x2).f1) ((rd_T60 x0 x2).f2) ((rd_T60 x0 x2).f3)) fun t0 => brA (decide ((x3.length + 1) ≤ 8796093022208)) (LP_27_0 k x0 x1 (wrap64 (x2 + (1 : Int))) (x3 ++ ([t0] : List ByteArray))) (none)) (none)) (none)) (callX (fun n => strings_Join.f n x3 (bs [44])) fun t1 => k (.str t1) ⟨[], []⟩) : Option Unit) := by
 simp only [← wrapA_i64]
 kernel_rfl
theorem w_27 (l0 : List S60) (k : AV tau → Mem tau → Option Unit) : fnA E_27 C_27 D_27 Tryd.f27 B_27 [.sl 60 l0] ⟨[], []⟩ k = (LP_27_0 k l0 ((l0.length : Nat) : Int) (0 : Int) ([] : List ByteArray) : Option Unit) := by kernel_rfl
def S_27_0 (N : Nat) : Prop := ∀ (k : AV tau → Mem tau → Option Unit) (x0 : (List S60)) (x1 : Int) (x2 : Int) (x3 : (List ByteArray)) (r : ByteArray), impl_ProgText.l0 N (x0) (x1) (x2) (x3) = some r → k (.str (r)) ⟨[], []⟩ = some () → LP_27_0 k x0 x1 x2 x3 = some ()
theorem L_27 (N : Nat) : S_27_0 N := by
 induction N using Nat.strongRecOn with | _ N0 ih =>
 skip
 intro k x0 x1 x2 x3 r h hk
 rcases N0 with _ | N
 · cases h
 first | rw [impl_ProgText.l0] at h | simp only [impl_ProgText.l0] at h | (unfold impl_ProgText.l0 at h; dsimp only at h)
 refine loop_fold mC_27 mD_27 ?_
 refine (w_27_0 k x0 x1 x2 x3).trans ?_
 refine br_eti h rfl (fun c13 h => ?_) (fun c13 h => ?_)
 ·refine call_h N h (fun t1 e14 h => ?_)
  cases h; exact hk
 refine br_g h rfl (fun c15 h => ?_)
 refine br_g h rfl (fun c16 h => ?_)
 refine call_h N h (fun t0 e17 h => ?_)
 refine br_g h rfl (fun c18 h => ?_)
 exact (ih N (by omega)) _ _ _ _ _ _ h hk
theorem okc_27 (args : List (AV tau)) (m : Mem tau) (κ : AV tau → Mem tau → Option Unit) (hh : c_27 args m κ = some ()) : ∃ av m1, κ av m1 = some () ∧ ToldA Tryd.prog TT (pnT 27) 27 args m av m1 := by
 obtain ⟨bx_, rw_⟩ := m
 unfold c_27 at hh
 simp only at hh
 split at hh
 case h_2 => cases hh
 rename_i b0
 obtain ⟨l0, hx0, hh0⟩ := bO_some hh
 have ex0 := asSl_some hx0
 subst ex0
 obtain ⟨N, t, h, hκ⟩ := callX_some hh0
 refine ⟨_, _, hκ, told_of_run pq okC_27 (fun _ _ _ => drawA_ok pq okC_27 hmix) (E := E_27) (fn := Tryd.f27) (body := B_27) (by kernel_rfl) (by kernel_rfl) (by kernel_rfl) (by rfl) (by exact Nat.le_of_ble_eq_true rfl) (fun k hk => ?_)⟩
 refine (w_27 l0 k).trans ?_
 replace h : impl_ProgText.f N l0 = some t := h
 unfold impl_ProgText.f at h
 exact (L_27 N) _ _ _ _ _ _ h hk
noncomputable def C_8 : Ctr tau Unit := ctrS 27 c_27 C_27
noncomputable def D_8 : Drw tau := drawA E_8 C_8
theorem okC_8 : CtrOk Tryd.prog TT pnT C_8 := ctrS_ok okC_27 okc_27
theorem mC_8 : CtrMono C_8 := ctrS_mono mC_27 mc_27
theorem mD_8 : DrMono D_8 := drawA_mono mC_8
noncomputable def B_8 : Code := Tryd.f8.body.getD .skip
theorem mc_8 (args : List (AV tau)) (m : Mem tau) (k k' : AV tau → Mem tau → Option Unit) (hk : ∀ av m, k av m = some () → k' av m = some ()) (h : c_8 args m k = some ()) : c_8 args m k' = some () := by
 unfold c_8 at h ⊢
 split at h
 · repeat' first | exact callX_mono (fun _ h => hk _ _ h) h | refine bO_mono (fun _ h => ?_) h
 · cases h
theorem w_8 (l0 : List S93) (k : AV tau → Mem tau → Option Unit) : fnA E_8 C_8 D_8 Tryd.f8 B_8 [.sl 93 l0] ⟨[], []⟩ k = (callX (fun n => laws_szInsS.f l0 (1048576 : Int)) fun t0 => brA (decide (t0 < (0 : Int))) (k (.bool true) ⟨[], []⟩) (callX (fun n => laws_toInsS.f n l0) fun t1 => callX (fun n => spec_ProgText.f n t1) fun t2 => callX (fun n => laws_toInsS.f n l0) fun t3 => callX (fun n => impl_ProgText.f n t3) fun t4 => brA (!(decide (t4 = t2))) (k (.bool false) ⟨[], []⟩) (callX (fun n => laws_toInsS.f n l0) fun t5 => callX (fun n => laws_eqInsS.f n t3 t5) fun t6 => brA (!t6) (k (.bool false) ⟨[], []⟩) (k (.bool true) ⟨[], []⟩))) : Option Unit) := by kernel_rfl
theorem okc_8 (args : List (AV tau)) (m : Mem tau) (κ : AV tau → Mem tau → Option Unit) (hh : c_8 args m κ = some ()) : ∃ av m1, κ av m1 = some () ∧ ToldA Tryd.prog TT (pnT 8) 8 args m av m1 := by
 obtain ⟨bx_, rw_⟩ := m
 unfold c_8 at hh
 simp only at hh
 split at hh
 case h_2 => cases hh
 rename_i b0
 obtain ⟨l0, hx0, hh0⟩ := bO_some hh
 have ex0 := asSl_some hx0
 subst ex0
 obtain ⟨N, t, h, hκ⟩ := callX_some hh0
 refine ⟨_, _, hκ, told_of_run pq okC_8 (fun _ _ _ => drawA_ok pq okC_8 hmix) (E := E_8) (fn := Tryd.f8) (body := B_8) (by kernel_rfl) (by kernel_rfl) (by kernel_rfl) (by rfl) (by exact Nat.le_of_ble_eq_true rfl) (fun k hk => ?_)⟩
 refine (w_8 l0 k).trans ?_
 replace h : laws_FnExactProgText.f N l0 = some t := h
 unfold laws_FnExactProgText.f at h
 refine call_h 0 h (fun t0 e11 h => ?_)
 refine br_ite h rfl (fun c12 h => ?_) (fun c12 h => ?_)
 ·cases h; exact hk
 refine call_h N h (fun t1 e13 h => ?_)
 refine call_h N h (fun t2 e14 h => ?_)
 refine call_h N h (fun t3 e15 h => ?_)
 refine call_h N h (fun t4 e16 h => ?_)
 refine br_etn h rfl (fun c17 h => ?_) (fun c17 h => ?_)
 ·cases h; exact hk
 refine call_h N h (fun t5 e18 h => ?_)
 refine call_h N h (fun t6 e19 h => ?_)
 refine br_itn h (congrArg not dect) (fun c20 h => ?_) (fun c20 h => ?_)
 ·cases h; exact hk
 cases h; exact hk
end Go.Proofs.YtlpgpckggnimhaaDoor.PFnExactProgText
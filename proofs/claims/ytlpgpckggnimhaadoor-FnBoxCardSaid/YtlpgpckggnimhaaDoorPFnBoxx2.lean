/- The machine's texts of FnBox (links). Conditions: none. -/
import Derived.Test.YtlpgpckggnimhaaDoorPFnBoxx1
set_option linter.unusedVariables false
set_option linter.unusedSimpArgs false
set_option maxRecDepth 100000
set_option maxHeartbeats 4000000
namespace Go.Proofs.YtlpgpckggnimhaaDoor.PFnBox
open Go.RowKit Go.Proofs.YtlpgpckggnimhaaDoorW.PrintWords Go.Proofs.YtlpgpckggnimhaaDoorW.PrintLast Go.Proofs.YtlpgpckggnimhaaDoorW.PrintMore
open Go Go.Proofs Am
noncomputable def C_91 : Ctr tau Unit := ctr0
theorem okC_91 : CtrOk Tryd.prog TT pnT C_91 := ctr0_ok
theorem mC_91 : CtrMono C_91 := ctr0_mono
theorem mc_91 (args : List (AV tau)) (m : Mem tau) (k k' : AV tau → Mem tau → Option Unit) (hk : ∀ av m, k av m = some () → k' av m = some ()) (h : c_91 args m k = some ()) : c_91 args m k' = some () := by
 unfold c_91 at h ⊢
 split at h
 · repeat' first | exact callX_mono (fun _ h => hk _ _ h) h | refine bO_mono (fun _ h => ?_) h
 · cases h
theorem okc_91 (args : List (AV tau)) (m : Mem tau) (κ : AV tau → Mem tau → Option Unit) (hh : c_91 args m κ = some ()) : ∃ av m1, κ av m1 = some () ∧ ToldA Tryd.prog TT (pnT 91) 91 args m av m1 := by
 obtain ⟨bx_, rw_⟩ := m
 unfold c_91 at hh
 simp only at hh
 split at hh
 case h_2 => cases hh
 rename_i b0 b1
 obtain ⟨a0, hx0, hh0⟩ := bO_some hh
 obtain ⟨a1, hx1, hh1⟩ := bO_some hh0
 have ex0 := asS_some hx0
 have ex1 := asS_some hx1
 subst ex0 ex1
 obtain ⟨N, t, h, hκ⟩ := callX_some hh1
 replace h : strings_TrimPrefix.f N a0 a1 = some t := h
 refine ⟨_, _, hκ, ?_⟩
 cases h
 exact told_two ⟨Tryd.f91, by kernel_rfl, by kernel_rfl, by kernel_rfl⟩ (fun _ _ _ => .str _) (fun w S _ => (Any.strings_TrimPrefix Tryd.lays101 a0 a1 w).mono fun e w' ⟨he, hw⟩ => ⟨he, hw ▸ .refl _ _⟩)
noncomputable def C_60 : Ctr tau Unit := ctrS 91 c_91 C_91
theorem okC_60 : CtrOk Tryd.prog TT pnT C_60 := ctrS_ok okC_91 okc_91
theorem mC_60 : CtrMono C_60 := ctrS_mono mC_91 mc_91
theorem mc_60 (args : List (AV tau)) (m : Mem tau) (k k' : AV tau → Mem tau → Option Unit) (hk : ∀ av m, k av m = some () → k' av m = some ()) (h : c_60 args m k = some ()) : c_60 args m k' = some () := by
 unfold c_60 at h ⊢
 split at h
 · repeat' first | exact callX_mono (fun _ h => hk _ _ h) h | refine bO_mono (fun _ h => ?_) h
 · cases h
theorem okc_60 (args : List (AV tau)) (m : Mem tau) (κ : AV tau → Mem tau → Option Unit) (hh : c_60 args m κ = some ()) : ∃ av m1, κ av m1 = some () ∧ ToldA Tryd.prog TT (pnT 60) 60 args m av m1 := by
 obtain ⟨bx_, rw_⟩ := m
 unfold c_60 at hh
 simp only at hh
 split at hh
 case h_2 => cases hh
 rename_i b0 b1
 obtain ⟨a0, hx0, hh0⟩ := bO_some hh
 obtain ⟨a1, hx1, hh1⟩ := bO_some hh0
 have ex0 := asS_some hx0
 have ex1 := asS_some hx1
 subst ex0 ex1
 obtain ⟨N, t, h, hκ⟩ := callX_some hh1
 replace h : strings_Cut.f N a0 a1 = some t := h
 refine ⟨_, _, hκ, ?_⟩
 unfold strings_Cut.f at h
 split at h
 case isFalse => cases h
 rename_i hb
 cases h
 obtain hu : ∀ w (η : Eta) S, VR TT S w ⟨[], []⟩ η (.tup [.str (cutL a0 a1), .str (cutR a0 a1), .bool (cutT a0 a1)]) (.tuple [.string (cutL a0 a1), .string (cutR a0 a1), .bool (cutT a0 a1)].toArray) := fun w η S => .tup _ _ rfl (fun i a c ha hc => by
   rcases i with _ | _ | _ | i
   · cases ha; cases hc; exact .str _
   · cases ha; cases hc; exact .str _
   · cases ha; cases hc; exact .bool _
   · cases ha)
 exact told_two ⟨Tryd.f60, by kernel_rfl, by kernel_rfl, by kernel_rfl⟩ hu (fun w S hg => by
   obtain ⟨⟨_, _, m, hm⟩, _⟩ := hg
   exact (Any.strings_Cut { Tryd.laysM145 with } a0 a1 m w hb hm).mono fun e w' ⟨he, d, hw⟩ => ⟨he, hw ▸ below_drawn w d⟩)
noncomputable def C_52 : Ctr tau Unit := ctrS 60 c_60 C_60
theorem okC_52 : CtrOk Tryd.prog TT pnT C_52 := ctrS_ok okC_60 okc_60
theorem mC_52 : CtrMono C_52 := ctrS_mono mC_60 mc_60
theorem mc_52 (args : List (AV tau)) (m : Mem tau) (k k' : AV tau → Mem tau → Option Unit) (hk : ∀ av m, k av m = some () → k' av m = some ()) (h : c_52 args m k = some ()) : c_52 args m k' = some () := by
 unfold c_52 at h ⊢
 split at h
 · repeat' first | exact callX_mono (fun _ h => hk _ _ h) h | refine bO_mono (fun _ h => ?_) h
 · cases h
theorem okc_52 (args : List (AV tau)) (m : Mem tau) (κ : AV tau → Mem tau → Option Unit) (hh : c_52 args m κ = some ()) : ∃ av m1, κ av m1 = some () ∧ ToldA Tryd.prog TT (pnT 52) 52 args m av m1 := by
 obtain ⟨bx_, rw_⟩ := m
 unfold c_52 at hh
 simp only at hh
 split at hh
 case h_2 => cases hh
 rename_i b0 b1
 obtain ⟨a0, hx0, hh0⟩ := bO_some hh
 obtain ⟨a1, hx1, hh1⟩ := bO_some hh0
 have ex0 := asS_some hx0
 have ex1 := asS_some hx1
 subst ex0 ex1
 obtain ⟨N, t, h, hκ⟩ := callX_some hh1
 replace h : strings_Split.f N a0 a1 = some t := h
 refine ⟨_, _, hκ, ?_⟩
 unfold strings_Split.f at h
 split at h
 case isFalse => cases h
 rename_i hb
 cases h
 have hl : (splitW a0 a1).length = Lib.countB a0 a1 + 1 := Lib.splitB_all a1 hb.2 0 _ a0 rfl
 have hle := Lib.countB_le a1 hb.2 a0.size a0 (Nat.le_refl _)
 exact told_split (T := TT) (P := Tryd.prog) (e := 9) (xs := (splitW a0 a1 : List ByteArray)) (ys := splitW a0 a1) (k := Lib.countB a0 a1 + 1) ⟨Tryd.f52, by kernel_rfl, by kernel_rfl, by kernel_rfl⟩ rfl rfl (fun j x y hx hy => by
   have := hx.symm.trans hy
   cases this; rfl) hl (by
   have := hb.1
   simp only [maxLen]; omega) (fun w S hg => by
   obtain ⟨⟨_, _, m, hm⟩, _⟩ := hg
   exact Any.strings_Split { Tryd.laysM146 with } Tryd.laysM146.i9 a0 a1 m w hb.1 hm hb.2)
noncomputable def C_59 : Ctr tau Unit := ctrS 52 c_52 C_52
theorem okC_59 : CtrOk Tryd.prog TT pnT C_59 := ctrS_ok okC_52 okc_52
theorem mC_59 : CtrMono C_59 := ctrS_mono mC_52 mc_52
theorem mc_59 (args : List (AV tau)) (m : Mem tau) (k k' : AV tau → Mem tau → Option Unit) (hk : ∀ av m, k av m = some () → k' av m = some ()) (h : c_59 args m k = some ()) : c_59 args m k' = some () := by
 unfold c_59 at h ⊢
 split at h
 · repeat' first | exact callX_mono (fun _ h => hk _ _ h) h | refine bO_mono (fun _ h => ?_) h
 · cases h
theorem okc_59 (args : List (AV tau)) (m : Mem tau) (κ : AV tau → Mem tau → Option Unit) (hh : c_59 args m κ = some ()) : ∃ av m1, κ av m1 = some () ∧ ToldA Tryd.prog TT (pnT 59) 59 args m av m1 := by
 obtain ⟨bx_, rw_⟩ := m
 unfold c_59 at hh
 simp only at hh
 split at hh
 case h_2 => cases hh
 rename_i b0 b1 r0
 obtain ⟨u0, hx0, hh0⟩ := bO_some hh
 obtain ⟨l0, hx1, hh1⟩ := bO_some hh0
 obtain ⟨a1, hx2, hh2⟩ := bO_some hh1
 have ex0 := asOwn_some hx0
 have ex1 := asRow_some hx1
 have ex2 := asS_some hx2
 subst ex0 ex1 ex2
 obtain ⟨N, t, h, hκ⟩ := callX_some hh2
 replace h : strings_Join.f N l0 a1 = some t := h
 refine ⟨_, _, hκ, ?_⟩
 unfold strings_Join.f at h
 split at h
 case isFalse => cases h
 rename_i hb
 cases h
 exact told_join (T := TT) (P := Tryd.prog) (e := 9) (xs := (l0 : List ByteArray)) (ys := l0) ⟨Tryd.f59, by kernel_rfl, by kernel_rfl, by kernel_rfl⟩ rfl rfl (fun j x y hx hy => by
   have := hx.symm.trans hy
   cases this; rfl) (fun hz w A c => by
   have hz' : l0 = [] := List.eq_nil_of_length_eq_zero hz
   subst hz'
   exact Any.strings_Join_none Tryd.lays156 Tryd.Builder_Extra_156 A c a1 w) (fun w g o c hc hg hle => Any.strings_Join Tryd.lays156 Tryd.Builder_Extra_156 g o c l0 a1 w hc hg hb.1 hle hb.2)
noncomputable def C_58 : Ctr tau Unit := ctrS 59 c_59 C_59
theorem okC_58 : CtrOk Tryd.prog TT pnT C_58 := ctrS_ok okC_59 okc_59
theorem mC_58 : CtrMono C_58 := ctrS_mono mC_59 mc_59
theorem mc_58 (args : List (AV tau)) (m : Mem tau) (k k' : AV tau → Mem tau → Option Unit) (hk : ∀ av m, k av m = some () → k' av m = some ()) (h : c_58 args m k = some ()) : c_58 args m k' = some () := by
 unfold c_58 at h ⊢
 split at h
 · repeat' first | exact callX_mono (fun _ h => hk _ _ h) h | refine bO_mono (fun _ h => ?_) h
 · cases h
theorem okc_58 (args : List (AV tau)) (m : Mem tau) (κ : AV tau → Mem tau → Option Unit) (hh : c_58 args m κ = some ()) : ∃ av m1, κ av m1 = some () ∧ ToldA Tryd.prog TT (pnT 58) 58 args m av m1 := by
 obtain ⟨bx_, rw_⟩ := m
 unfold c_58 at hh
 simp only at hh
 split at hh
 case h_2 => cases hh
 rename_i b0
 obtain ⟨a0, hx0, hh0⟩ := bO_some hh
 have ex0 := asI_some hx0
 subst ex0
 obtain ⟨N, t, h, hκ⟩ := callX_some hh0
 replace h : strconv_Itoa.f N a0 = some t := h
 refine ⟨_, _, hκ, ?_⟩
 unfold strconv_Itoa.f at h
 split at h
 case isFalse => cases h
 rename_i hb
 cases h
 exact told_num ⟨Tryd.f58, by kernel_rfl, by kernel_rfl, by kernel_rfl⟩ (fun w S hg => (Any.strconv_Itoa Tryd.laysM171 a0 hb.1 hb.2 w hg.2.2.2.2).mono fun e w' ⟨he, d, os, hw⟩ => ⟨he, hw ▸ below_grown w d os⟩)
noncomputable def C_63 : Ctr tau Unit := ctrS 58 c_58 C_58
theorem okC_63 : CtrOk Tryd.prog TT pnT C_63 := ctrS_ok okC_58 okc_58
theorem mC_63 : CtrMono C_63 := ctrS_mono mC_58 mc_58
theorem mc_63 (args : List (AV tau)) (m : Mem tau) (k k' : AV tau → Mem tau → Option Unit) (hk : ∀ av m, k av m = some () → k' av m = some ()) (h : c_63 args m k = some ()) : c_63 args m k' = some () := by
 unfold c_63 at h ⊢
 split at h
 · repeat' first | exact callX_mono (fun _ h => hk _ _ h) h | refine bO_mono (fun _ h => ?_) h
 · cases h
theorem okc_63 (args : List (AV tau)) (m : Mem tau) (κ : AV tau → Mem tau → Option Unit) (hh : c_63 args m κ = some ()) : ∃ av m1, κ av m1 = some () ∧ ToldA Tryd.prog TT (pnT 63) 63 args m av m1 := by
 obtain ⟨bx_, rw_⟩ := m
 unfold c_63 at hh
 simp only at hh
 split at hh
 case h_2 => cases hh
 rename_i b0
 obtain ⟨a0, hx0, hh0⟩ := bO_some hh
 have ex0 := asI_some hx0
 subst ex0
 obtain ⟨N, t, h, hκ⟩ := callX_some hh0
 replace h : spec_l15Dec.f N a0 = some t := h
 refine ⟨_, _, hκ, ?_⟩
 exact told_num ⟨Tryd.f63, by kernel_rfl, by kernel_rfl, by kernel_rfl⟩ (fun w S _ => spec_l15Dec.calls N a0 t w h)
noncomputable def C_67 : Ctr tau Unit := ctrS 63 c_63 C_63
noncomputable def D_67 : Drw tau := drawA E_67 C_67
theorem okC_67 : CtrOk Tryd.prog TT pnT C_67 := ctrS_ok okC_63 okc_63
theorem mC_67 : CtrMono C_67 := ctrS_mono mC_63 mc_63
theorem mD_67 : DrMono D_67 := drawA_mono mC_67
noncomputable def B_67 : Code := Tryd.f67.body.getD .skip
theorem mc_67 (args : List (AV tau)) (m : Mem tau) (k k' : AV tau → Mem tau → Option Unit) (hk : ∀ av m, k av m = some () → k' av m = some ()) (h : c_67 args m k = some ()) : c_67 args m k' = some () := by
 unfold c_67 at h ⊢
 split at h
 · repeat' first | exact callX_mono (fun _ h => hk _ _ h) h | refine bO_mono (fun _ h => ?_) h
 · cases h
theorem w_67 (s0_0 : List Int) (s0_1 : Int) (a1 : Int) (k : AV tau → Mem tau → Option Unit) : fnA E_67 C_67 D_67 Tryd.f67 B_67 [.ptr 0 0, .int .i64 a1] ⟨[some (98, [.sl 5 s0_0, .int .i64 s0_1])], []⟩ k = (brA (decide (a1 < (1 : Int))) (k (.int .i64 (0 : Int)) ⟨[some (98, [.sl 5 s0_0, .int .i64 (wrap64 (s0_1 + (1 : Int)))])], []⟩) (brA (decide (((s0_0.length : Nat) : Int) = (0 : Int))) (k (.int .i64 (0 : Int)) ⟨[some (98, [.sl 5 s0_0, .int .i64 (wrap64 (s0_1 + (1 : Int)))])], []⟩) (brA (decide ((wrap64 ((wrap64 (s0_1 + (1 : Int))) - (1 : Int))) < ((s0_0.length : Nat) : Int))) (brA (decide ((0 : Int) ≤ (wrap64 ((wrap64 (s0_1 + (1 : Int))) - (1 : Int))))) (brA (decide ((wrap64 ((wrap64 (s0_1 + (1 : Int))) - (1 : Int))) < ((s0_0.length : Nat) : Int))) (brA (!(decide (a1 = (0 : Int)))) (k (.int .i64 (Int.tmod (wrap64 (rd s0_0 (wrap64 ((wrap64 (s0_1 + (1 : Int))) - (1 : Int))))) a1)) ⟨[some (98, [.sl 5 s0_0, .int .i64 (wrap64 (s0_1 + (1 : Int)))])], []⟩) (none)) (none)) (none)) (brA (!(decide (((s0_0.length : Nat) : Int) = (0 : Int)))) (brA (decide ((0 : Int) ≤ (Int.tmod (wrap64 ((wrap64 (s0_1 + (1 : Int))) - (1 : Int))) ((s0_0.length : Nat) : Int)))) (brA (decide ((Int.tmod (wrap64 ((wrap64 (s0_1 + (1 : Int))) - (1 : Int))) ((s0_0.length : Nat) : Int)) < ((s0_0.length : Nat) : Int))) (brA (!(decide (((s0_0.length : Nat) : Int) = (0 : Int)))) (brA (decide ((0 : Int) ≤ (Int.tmod (wrap64 ((wrap64 ((wrap64 ((wrap64 (s0_1 + (1 : Int))) - (1 : Int))) * (7 : Int))) + (3 : Int))) ((s0_0.length : Nat) : Int)))) (brA (decide ((Int.tmod (wrap64 ((wrap64 ((wrap64 ((wrap64 (s0_1 + (1 : Int))) - (1 : Int))) * (7 : Int))) + (3 : Int))) ((s0_0.length : Nat) : Int)) < ((s0_0.length : Nat) : Int))) (brA (!(decide (((s0_0.length : Nat) : Int) = (0 : Int)))) (brA (!(decide (a1 = (0 : Int)))) (k (.int .i64 (Int.tmod (Go.bits .xor .i64 (wrap64 ((wrap64 ((wrap64 ((wrap64 ((wrap64 (rd s0_0 (Int.tmod (wrap64 ((wrap64 (s0_1 + (1 : Int))) - (1 : Int))) ((s0_0.length : Nat) : Int)))) * (131 : Int))) + (wrap64 ((wrap64 (rd s0_0 (Int.tmod (wrap64 ((wrap64 ((wrap64 ((wrap64 (s0_1 + (1 : Int))) - (1 : Int))) * (7 : Int))) + (3 : Int))) ((s0_0.length : Nat) : Int)))) * (1117 : Int))))) + (wrap64 ((wrap64 ((wrap64 (s0_1 + (1 : Int))) - (1 : Int))) * (29 : Int))))) + (wrap64 ((wrap64 (Int.tdiv (wrap64 ((wrap64 (s0_1 + (1 : Int))) - (1 : Int))) ((s0_0.length : Nat) : Int))) * (53 : Int))))) (wrap64 (Int.tdiv (wrap64 ((wrap64 ((wrap64 ((wrap64 ((wrap64 (rd s0_0 (Int.tmod (wrap64 ((wrap64 (s0_1 + (1 : Int))) - (1 : Int))) ((s0_0.length : Nat) : Int)))) * (131 : Int))) + (wrap64 ((wrap64 (rd s0_0 (Int.tmod (wrap64 ((wrap64 ((wrap64 ((wrap64 (s0_1 + (1 : Int))) - (1 : Int))) * (7 : Int))) + (3 : Int))) ((s0_0.length : Nat) : Int)))) * (1117 : Int))))) + (wrap64 ((wrap64 ((wrap64 (s0_1 + (1 : Int))) - (1 : Int))) * (29 : Int))))) + (wrap64 ((wrap64 (Int.tdiv (wrap64 ((wrap64 (s0_1 + (1 : Int))) - (1 : Int))) ((s0_0.length : Nat) : Int))) * (53 : Int))))) (64 : Int)))) a1)) ⟨[some (98, [.sl 5 s0_0, .int .i64 (wrap64 (s0_1 + (1 : Int)))])], []⟩) (none)) (none)) (none)) (none)) (none)) (none)) (none)) (none)))) : Option Unit) := by
 simp only [← wrapA_i64]
 kernel_rfl
theorem okc_67 (args : List (AV tau)) (m : Mem tau) (κ : AV tau → Mem tau → Option Unit) (hh : c_67 args m κ = some ()) : ∃ av m1, κ av m1 = some () ∧ ToldA Tryd.prog TT (pnT 67) 67 args m av m1 := by
 obtain ⟨bx_, rw_⟩ := m
 unfold c_67 at hh
 simp only at hh
 split at hh
 case h_2 => cases hh
 rename_i p0 b0 t0_ c0_0 c0_1
 obtain ⟨u12, hx0, hh0⟩ := bO_some hh
 obtain ⟨u13, hx1, hh1⟩ := bO_some hh0
 obtain ⟨s0_0, hx2, hh2⟩ := bO_some hh1
 obtain ⟨s0_1, hx3, hh3⟩ := bO_some hh2
 obtain ⟨a1, hx4, hh4⟩ := bO_some hh3
 have ex0 := asPtr_some hx0
 have ex1 := asT_some hx1
 have ex2 := asSl_some hx2
 have ex3 := asI_some hx3
 have ex4 := asI_some hx4
 subst ex0 ex1 ex2 ex3 ex4
 obtain ⟨N, t, h, hκ⟩ := callX_some hh4
 refine ⟨_, _, hκ, told_of_run pq okC_67 (fun _ _ _ => drawA_ok pq okC_67 hmix) (E := E_67) (fn := Tryd.f67) (body := B_67) (by kernel_rfl) (by kernel_rfl) (by kernel_rfl) (by rfl) (by exact Nat.le_of_ble_eq_true rfl) (fun k hk => ?_)⟩
 refine (w_67 s0_0 s0_1 a1 k).trans ?_
 replace h : spec_l15Rd_pick.f N s0_0 s0_1 a1 = some t := h
 unfold spec_l15Rd_pick.f at h
 refine br_ite h rfl (fun c14 h => ?_) (fun c14 h => ?_)
 ·rcases N with _ | N
  · cases h
  first | rw [spec_l15Rd_pick.j0] at h | simp only [spec_l15Rd_pick.j0] at h | (unfold spec_l15Rd_pick.j0 at h; dsimp only at h)
  replace h := ite_t h (by first | assumption | omega | simp_all)
  cases h; exact hk
 rcases N with _ | N
 · cases h
 first | rw [spec_l15Rd_pick.j0] at h | simp only [spec_l15Rd_pick.j0] at h | (unfold spec_l15Rd_pick.j0 at h; dsimp only at h)
 refine br_ite h (by first | rfl | exact dect | exact (congrArg not dect) | (simp; done) | (simp [beqI]; done) | (simp; omega)) (fun c15 h => ?_) (fun c15 h => ?_)
 ·cases h; exact hk
 refine br_ite h rfl (fun c16 h => ?_) (fun c16 h => ?_)
 ·refine br_g h rfl (fun c17 h => ?_)
  refine br_t (by first | (simp [c16]; done) | (simp; omega) | (simp only [List.length_append, List.length_cons, List.length_nil, List.length_take, List.length_drop] at c16 c15 ⊢; simp; omega) | (simp only [List.length_append, List.length_cons, List.length_nil, List.length_take, List.length_drop] at c16 c15; simp; omega) | (simp_all; done)) ?_
  refine br_nn h rfl (fun c18 h => ?_)
  cases h; exact hk
 refine br_nn h rfl (fun c19 h => ?_)
 refine br_g h rfl (fun c20 h => ?_)
 refine br_g h rfl (fun c21 h => ?_)
 refine br_t (by first | (simp [c19]; done) | (simp; omega) | (simp only [List.length_append, List.length_cons, List.length_nil, List.length_take, List.length_drop] at c21 c20 c19 c16 c15 ⊢; simp; omega) | (simp only [List.length_append, List.length_cons, List.length_nil, List.length_take, List.length_drop] at c21 c20 c19 c16 c15; simp; omega) | (simp_all; done)) ?_
 refine br_g h rfl (fun c22 h => ?_)
 refine br_g h rfl (fun c23 h => ?_)
 refine br_t (by first | (simp [c19]; done) | (simp; omega) | (simp only [List.length_append, List.length_cons, List.length_nil, List.length_take, List.length_drop] at c23 c22 c21 c20 c19 ⊢; simp; omega) | (simp only [List.length_append, List.length_cons, List.length_nil, List.length_take, List.length_drop] at c23 c22 c21 c20 c19; simp; omega) | (simp_all; done)) ?_
 refine br_nn h rfl (fun c24 h => ?_)
 cases h; exact hk
noncomputable def C_84 : Ctr tau Unit := ctrS 67 c_67 C_67
noncomputable def D_84 : Drw tau := drawA E_84 C_84
theorem okC_84 : CtrOk Tryd.prog TT pnT C_84 := ctrS_ok okC_67 okc_67
theorem mC_84 : CtrMono C_84 := ctrS_mono mC_67 mc_67
theorem mD_84 : DrMono D_84 := drawA_mono mC_84
noncomputable def B_84 : Code := Tryd.f84.body.getD .skip
theorem mc_84 (args : List (AV tau)) (m : Mem tau) (k k' : AV tau → Mem tau → Option Unit) (hk : ∀ av m, k av m = some () → k' av m = some ()) (h : c_84 args m k = some ()) : c_84 args m k' = some () := by
 unfold c_84 at h ⊢
 split at h
 · repeat' first | exact callX_mono (fun _ h => hk _ _ h) h | refine bO_mono (fun _ h => ?_) h
 · cases h
theorem w_84  (k : AV tau → Mem tau → Option Unit) : fnA E_84 C_84 D_84 Tryd.f84 B_84 [] ⟨[], []⟩ k = (k (.own 0 0) ⟨[], [some ⟨70, ([(⟨(0 : Int), (0 : Int)⟩ : S70), (⟨(0 : Int), (0 : Int)⟩ : S70), (⟨(0 : Int), (0 : Int)⟩ : S70), (⟨(0 : Int), (0 : Int)⟩ : S70)] : List S70), 0⟩]⟩ : Option Unit) := by kernel_rfl
theorem okc_84 (args : List (AV tau)) (m : Mem tau) (κ : AV tau → Mem tau → Option Unit) (hh : c_84 args m κ = some ()) : ∃ av m1, κ av m1 = some () ∧ ToldA Tryd.prog TT (pnT 84) 84 args m av m1 := by
 obtain ⟨bx_, rw_⟩ := m
 unfold c_84 at hh
 simp only at hh
 split at hh
 case h_2 => cases hh
 obtain ⟨N, t, h, hκ⟩ := callX_some hh
 refine ⟨_, _, hκ, told_of_run pq okC_84 (fun _ _ _ => drawA_ok pq okC_84 hmix) (E := E_84) (fn := Tryd.f84) (body := B_84) (by kernel_rfl) (by kernel_rfl) (by kernel_rfl) (by rfl) (by exact Nat.le_of_ble_eq_true rfl) (fun k hk => ?_)⟩
 refine (w_84 k).trans ?_
 replace h : spec_BoxOpen.f = some t := h
 unfold spec_BoxOpen.f at h
 replace h := ite_t h (by first | assumption | omega | simp_all)
 cases h; exact hk
noncomputable def C_85 : Ctr tau Unit := ctrS 84 c_84 C_84
noncomputable def D_85 : Drw tau := drawA E_85 C_85
theorem okC_85 : CtrOk Tryd.prog TT pnT C_85 := ctrS_ok okC_84 okc_84
theorem mC_85 : CtrMono C_85 := ctrS_mono mC_84 mc_84
theorem mD_85 : DrMono D_85 := drawA_mono mC_85
noncomputable def B_85 : Code := Tryd.f85.body.getD .skip
theorem mc_85 (args : List (AV tau)) (m : Mem tau) (k k' : AV tau → Mem tau → Option Unit) (hk : ∀ av m, k av m = some () → k' av m = some ()) (h : c_85 args m k = some ()) : c_85 args m k' = some () := by
 unfold c_85 at h ⊢
 split at h
 · repeat' first | exact callX_mono (fun _ h => hk _ _ h) h | refine bO_mono (fun _ h => ?_) h
 · cases h
theorem w_85 (s0_0 : List Int) (s0_1 : Int) (l1 : List Int) (k : AV tau → Mem tau → Option Unit) : fnA E_85 C_85 D_85 Tryd.f85 B_85 [.ptr 0 0, .own 0 0] ⟨[some (98, [.sl 5 s0_0, .int .i64 s0_1])], [some ⟨3, l1, 0⟩]⟩ k = (callX (fun n => spec_l15Rd_pick.f n s0_0 s0_1 ((l1.length : Nat) : Int)) fun t0 => brA (decide ((0 : Int) ≤ t0.1)) (brA (decide (t0.1 < ((l1.length : Nat) : Int))) (k (.int .i64 (rd l1 t0.1)) ⟨[some (98, [.sl 5 s0_0, .int .i64 t0.2])], [some ⟨3, l1, 0⟩]⟩) (none)) (none) : Option Unit) := by kernel_rfl
theorem okc_85 (args : List (AV tau)) (m : Mem tau) (κ : AV tau → Mem tau → Option Unit) (hh : c_85 args m κ = some ()) : ∃ av m1, κ av m1 = some () ∧ ToldA Tryd.prog TT (pnT 85) 85 args m av m1 := by
 obtain ⟨bx_, rw_⟩ := m
 unfold c_85 at hh
 simp only at hh
 split at hh
 case h_2 => cases hh
 rename_i p0 b0 t0_ c0_0 c0_1 r0
 obtain ⟨u4, hx0, hh0⟩ := bO_some hh
 obtain ⟨u5, hx1, hh1⟩ := bO_some hh0
 obtain ⟨s0_0, hx2, hh2⟩ := bO_some hh1
 obtain ⟨s0_1, hx3, hh3⟩ := bO_some hh2
 obtain ⟨u6, hx4, hh4⟩ := bO_some hh3
 obtain ⟨l1, hx5, hh5⟩ := bO_some hh4
 have ex0 := asPtr_some hx0
 have ex1 := asT_some hx1
 have ex2 := asSl_some hx2
 have ex3 := asI_some hx3
 have ex4 := asOwn_some hx4
 have ex5 := asRow_some hx5
 subst ex0 ex1 ex2 ex3 ex4 ex5
 obtain ⟨N, t, h, hκ⟩ := callX_some hh5
 refine ⟨_, _, hκ, told_of_run pq okC_85 (fun _ _ _ => drawA_ok pq okC_85 hmix) (E := E_85) (fn := Tryd.f85) (body := B_85) (by kernel_rfl) (by kernel_rfl) (by kernel_rfl) (by rfl) (by exact Nat.le_of_ble_eq_true rfl) (fun k hk => ?_)⟩
 refine (w_85 s0_0 s0_1 l1 k).trans ?_
 replace h : spec_l15Rd_num.f N s0_0 s0_1 l1 = some t := h
 unfold spec_l15Rd_num.f at h
 refine call_h N h (fun t0 e7 h => ?_)
 refine br_g h rfl (fun c8 h => ?_)
 refine br_g h rfl (fun c9 h => ?_)
 cases h; exact hk
noncomputable def C_56 : Ctr tau Unit := ctrS 85 c_85 C_85
noncomputable def D_56 : Drw tau := drawA E_56 C_56
theorem okC_56 : CtrOk Tryd.prog TT pnT C_56 := ctrS_ok okC_85 okc_85
theorem mC_56 : CtrMono C_56 := ctrS_mono mC_85 mc_85
theorem mD_56 : DrMono D_56 := drawA_mono mC_56
noncomputable def B_56 : Code := Tryd.f56.body.getD .skip
theorem mc_56 (args : List (AV tau)) (m : Mem tau) (k k' : AV tau → Mem tau → Option Unit) (hk : ∀ av m, k av m = some () → k' av m = some ()) (h : c_56 args m k = some ()) : c_56 args m k' = some () := by
 unfold c_56 at h ⊢
 split at h
 · repeat' first | exact callX_mono (fun _ h => hk _ _ h) h | refine bO_mono (fun _ h => ?_) h
 · cases h
noncomputable def K_56_0 (k : AV tau → Mem tau → Option Unit) : Kon tau := (kBlock 0 (kS E_56 C_56 D_56 (codeP B_56 [1, 1, 1]) (kEnd E_56 Tryd.f56 k)))
def st_56_0 (x0 : Int) (x1 : (List Int)) (x2 : Int) (x3 : (List S70)) : St tau := ⟨tmL 48 0 [(0, .ptr 0 0), (3, .own 0 0), (4, .int .i64 x0)], ⟨[some (98, [.sl 5 x1, .int .i64 x2])], [some ⟨70, x3, 0⟩]⟩⟩
noncomputable def LP_56_0 (k : AV tau → Mem tau → Option Unit) (x0 : Int) (x1 : (List Int)) (x2 : Int) (x3 : (List S70)) : Option Unit := loopA E_56 (codeA E_56 C_56 D_56 (codeP B_56 [1, 1, 0, 1, 0, 0])) (codeP B_56 [1, 1, 0, 1, 0, 0]) (K_56_0 k) (st_56_0 x0 x1 x2 x3)
theorem w_56_0 (k : AV tau → Mem tau → Option Unit) (x0 : Int) (x1 : (List Int)) (x2 : Int) (x3 : (List S70)) : codeA E_56 C_56 D_56 (codeP B_56 [1, 1, 0, 1, 0, 0]) (kL E_56 C_56 D_56 (codeP B_56 [1, 1, 0, 1, 0, 0]) (K_56_0 k)) (st_56_0 x0 x1 x2 x3) = (brA (decide (x0 < ((x3.length : Nat) : Int))) (callX (fun n => spec_l15Rd_pick.f n x1 x2 (5 : Int)) fun t1 => callX (fun n => spec_l15Rd_num.f n x1 t1.2 ([(0 : Int), (1 : Int), (2 : Int), (5 : Int), (-(3 : Int)), (7 : Int), (100 : Int), (1000000 : Int), (-(1000000 : Int))] : List Int)) fun t2 => brA (decide ((0 : Int) ≤ x0)) (brA (decide (x0 < ((x3.length : Nat) : Int))) (LP_56_0 k (wrap64 (x0 + (1 : Int))) x1 t2.2 (List.set x3 (Int.toNat x0) (⟨t1.1, t2.1⟩ : S70))) (none)) (none)) (callX (fun n => spec_l15Rd_pick.f n x1 x2 (30 : Int)) fun t3 => brA (decide (t3.1 = (0 : Int))) (brA (decide ((3 : Int) ≤ ((x3.length : Nat) : Int))) (k (.own 0 0) ⟨[some (98, [.sl 5 x1, .int .i64 t3.2])], [some ⟨70, (List.take 3 x3), 0⟩]⟩) (none)) (brA (decide (t3.1 = (1 : Int))) (callX (fun n => spec_l15Rd_pick.f n x1 t3.2 (4 : Int)) fun t4 => callX (fun n => spec_l15Rd_num.f n x1 t4.2 ([(-(1 : Int)), (1000001 : Int)] : List Int)) fun t5 => brA (decide ((0 : Int) ≤ t4.1)) (brA (decide (t4.1 < ((x3.length : Nat) : Int))) (k (.own 0 0) ⟨[some (98, [.sl 5 x1, .int .i64 t5.2])], [some ⟨70, (List.set x3 (Int.toNat t4.1) (⟨t5.1, (rd_T70 x3 t4.1).f1⟩ : S70)), 0⟩]⟩) (none)) (none)) (brA (decide (t3.1 = (2 : Int))) (callX (fun n => spec_l15Rd_pick.f n x1 t3.2 (4 : Int)) fun t6 => callX (fun n => spec_l15Rd_num.f n x1 t6.2 ([(1000001 : Int), (-(1000001 : Int))] : List Int)) fun t7 => brA (decide ((0 : Int) ≤ t6.1)) (brA (decide (t6.1 < ((x3.length : Nat) : Int))) (k (.own 0 0) ⟨[some (98, [.sl 5 x1, .int .i64 t7.2])], [some ⟨70, (List.set x3 (Int.toNat t6.1) (⟨(rd_T70 x3 t6.1).f0, t7.1⟩ : S70)), 0⟩]⟩) (none)) (none)) (k (.own 0 0) ⟨[some (98, [.sl 5 x1, .int .i64 t3.2])], [some ⟨70, x3, 0⟩]⟩)))) : Option Unit) := by
 simp only [← wrapA_i64]
 kernel_rfl
theorem w_56 (s0_0 : List Int) (s0_1 : Int) (k : AV tau → Mem tau → Option Unit) : fnA E_56 C_56 D_56 Tryd.f56 B_56 [.ptr 0 0] ⟨[some (98, [.sl 5 s0_0, .int .i64 s0_1])], []⟩ k = (callX (fun n => spec_BoxOpen.f ) fun t0 => LP_56_0 k (0 : Int) s0_0 s0_1 t0 : Option Unit) := by kernel_rfl
def S_56_0 (N : Nat) : Prop := ∀ (k : AV tau → Mem tau → Option Unit) (x0 : Int) (x1 : (List Int)) (x2 : Int) (x3 : (List S70)) (r : (List (S70)) × Int), spec_l1Boxes.l0 N (x3) (x0) (x1) (x2) = some r → k (.own 0 0) ⟨[some (98, [.sl 5 ((x1)), .int .i64 (r.2)])], [some ⟨70, r.1, 0⟩]⟩ = some () → LP_56_0 k x0 x1 x2 x3 = some ()
theorem L_56 (N : Nat) : S_56_0 N := by
 induction N using Nat.strongRecOn with | _ N0 ih =>
 skip
 intro k x0 x1 x2 x3 r h hk
 rcases N0 with _ | N
 · cases h
 first | rw [spec_l1Boxes.l0] at h | simp only [spec_l1Boxes.l0] at h | (unfold spec_l1Boxes.l0 at h; dsimp only at h)
 refine loop_fold mC_56 mD_56 ?_
 refine (w_56_0 k x0 x1 x2 x3).trans ?_
 refine br_ite h rfl (fun c37 h => ?_) (fun c37 h => ?_)
 ·refine call_h N h (fun t1 e38 h => ?_)
  refine call_h N h (fun t2 e39 h => ?_)
  refine br_g h rfl (fun c40 h => ?_)
  refine br_t (by first | (simp [c37]; done) | (simp; omega) | (simp only [List.length_append, List.length_cons, List.length_nil, List.length_take, List.length_drop] at c37 ⊢; simp; omega) | (simp only [List.length_append, List.length_cons, List.length_nil, List.length_take, List.length_drop] at c37; simp; omega) | (simp_all; done)) ?_
  exact (ih N (by omega)) _ _ _ _ _ _ h hk
 refine call_h N h (fun t3 e41 h => ?_)
 refine br_ite h rfl (fun c42 h => ?_) (fun c42 h => ?_)
 ·refine br_g h rfl (fun c43 h => ?_)
  cases h; exact hk
 refine br_ite h rfl (fun c44 h => ?_) (fun c44 h => ?_)
 ·refine call_h N h (fun t4 e45 h => ?_)
  refine call_h N h (fun t5 e46 h => ?_)
  refine br_g h rfl (fun c47 h => ?_)
  refine br_g h rfl (fun c48 h => ?_)
  cases h; exact hk
 refine br_eti h rfl (fun c49 h => ?_) (fun c49 h => ?_)
 ·cases h; exact hk
 refine call_h N h (fun t6 e50 h => ?_)
 refine call_h N h (fun t7 e51 h => ?_)
 refine br_g h rfl (fun c52 h => ?_)
 refine br_g h rfl (fun c53 h => ?_)
 cases h; exact hk
theorem okc_56 (args : List (AV tau)) (m : Mem tau) (κ : AV tau → Mem tau → Option Unit) (hh : c_56 args m κ = some ()) : ∃ av m1, κ av m1 = some () ∧ ToldA Tryd.prog TT (pnT 56) 56 args m av m1 := by
 obtain ⟨bx_, rw_⟩ := m
 unfold c_56 at hh
 simp only at hh
 split at hh
 case h_2 => cases hh
 rename_i p0 t0_ c0_0 c0_1
 obtain ⟨u54, hx0, hh0⟩ := bO_some hh
 obtain ⟨u55, hx1, hh1⟩ := bO_some hh0
 obtain ⟨s0_0, hx2, hh2⟩ := bO_some hh1
 obtain ⟨s0_1, hx3, hh3⟩ := bO_some hh2
 have ex0 := asPtr_some hx0
 have ex1 := asT_some hx1
 have ex2 := asSl_some hx2
 have ex3 := asI_some hx3
 subst ex0 ex1 ex2 ex3
 obtain ⟨N, t, h, hκ⟩ := callX_some hh3
 refine ⟨_, _, hκ, told_of_run pq okC_56 (fun _ _ _ => drawA_ok pq okC_56 hmix) (E := E_56) (fn := Tryd.f56) (body := B_56) (by kernel_rfl) (by kernel_rfl) (by kernel_rfl) (by rfl) (by exact Nat.le_of_ble_eq_true rfl) (fun k hk => ?_)⟩
 refine (w_56 s0_0 s0_1 k).trans ?_
 replace h : spec_l1Boxes.f N s0_0 s0_1 = some t := h
 unfold spec_l1Boxes.f at h
 refine call_h 0 h (fun t0 e56 h => ?_)
 exact (L_56 N) _ _ _ _ _ _ h hk
noncomputable def C_57 : Ctr tau Unit := ctrS 56 c_56 C_56
noncomputable def D_57 : Drw tau := drawA E_57 C_57
theorem okC_57 : CtrOk Tryd.prog TT pnT C_57 := ctrS_ok okC_56 okc_56
theorem mC_57 : CtrMono C_57 := ctrS_mono mC_56 mc_56
theorem mD_57 : DrMono D_57 := drawA_mono mC_57
noncomputable def B_57 : Code := Tryd.f57.body.getD .skip
theorem mc_57 (args : List (AV tau)) (m : Mem tau) (k k' : AV tau → Mem tau → Option Unit) (hk : ∀ av m, k av m = some () → k' av m = some ()) (h : c_57 args m k = some ()) : c_57 args m k' = some () := by
 unfold c_57 at h ⊢
 split at h
 · repeat' first | exact callX_mono (fun _ h => hk _ _ h) h | refine bO_mono (fun _ h => ?_) h
 · cases h
theorem w_57 (l0 : List Int) (k : AV tau → Mem tau → Option Unit) : fnA E_57 C_57 D_57 Tryd.f57 B_57 [.sl 5 l0] ⟨[], []⟩ k = (brA (decide (((l0.length : Nat) : Int) > (2000 : Int))) (brA (decide ((2000 : Int) ≤ ((l0.length : Nat) : Int))) (k (.ptr 0 0) ⟨[some (98, [.sl 5 (List.take 2000 l0), .int .i64 (0 : Int)])], []⟩) (none)) (k (.ptr 0 0) ⟨[some (98, [.sl 5 l0, .int .i64 (0 : Int)])], []⟩) : Option Unit) := by kernel_rfl
theorem okc_57 (args : List (AV tau)) (m : Mem tau) (κ : AV tau → Mem tau → Option Unit) (hh : c_57 args m κ = some ()) : ∃ av m1, κ av m1 = some () ∧ ToldA Tryd.prog TT (pnT 57) 57 args m av m1 := by
 obtain ⟨bx_, rw_⟩ := m
 unfold c_57 at hh
 simp only at hh
 split at hh
 case h_2 => cases hh
 rename_i b0
 obtain ⟨l0, hx0, hh0⟩ := bO_some hh
 have ex0 := asSl_some hx0
 subst ex0
 obtain ⟨N, t, h, hκ⟩ := callX_some hh0
 refine ⟨_, _, hκ, told_of_run pq okC_57 (fun _ _ _ => drawA_ok pq okC_57 hmix) (E := E_57) (fn := Tryd.f57) (body := B_57) (by kernel_rfl) (by kernel_rfl) (by kernel_rfl) (by rfl) (by exact Nat.le_of_ble_eq_true rfl) (fun k hk => ?_)⟩
 refine (w_57 l0 k).trans ?_
 replace h : spec_l15Open.f l0 = some t := h
 unfold spec_l15Open.f at h
 refine br_eti h rfl (fun c3 h => ?_) (fun c3 h => ?_)
 ·cases h; exact hk
 refine br_g h rfl (fun c4 h => ?_)
 cases h; exact hk
noncomputable def C_16 : Ctr tau Unit := ctrS 57 c_57 C_57
noncomputable def D_16 : Drw tau := drawA E_16 C_16
theorem okC_16 : CtrOk Tryd.prog TT pnT C_16 := ctrS_ok okC_57 okc_57
theorem mC_16 : CtrMono C_16 := ctrS_mono mC_57 mc_57
theorem mD_16 : DrMono D_16 := drawA_mono mC_16
noncomputable def B_16 : Code := Tryd.f16.body.getD .skip
theorem mc_16 (args : List (AV tau)) (m : Mem tau) (k k' : AV tau → Mem tau → Option Unit) (hk : ∀ av m, k av m = some () → k' av m = some ()) (h : c_16 args m k = some ()) : c_16 args m k' = some () := by
 unfold c_16 at h ⊢
 split at h
 · repeat' first | exact callX_mono (fun _ h => hk _ _ h) h | refine bO_mono (fun _ h => ?_) h
 · cases h
theorem w_16 (l0 : List Int) (k : AV tau → Mem tau → Option Unit) : fnA E_16 C_16 D_16 Tryd.f16 B_16 [.sl 5 l0] ⟨[], []⟩ k = (callX (fun n => spec_l15Open.f l0) fun t0 => callX (fun n => spec_l1Boxes.f n t0.1 t0.2) fun t1 => k (.own 0 0) ⟨[], [some ⟨70, t1.1, 0⟩]⟩ : Option Unit) := by kernel_rfl
theorem okc_16 (args : List (AV tau)) (m : Mem tau) (κ : AV tau → Mem tau → Option Unit) (hh : c_16 args m κ = some ()) : ∃ av m1, κ av m1 = some () ∧ ToldA Tryd.prog TT (pnT 16) 16 args m av m1 := by
 obtain ⟨bx_, rw_⟩ := m
 unfold c_16 at hh
 simp only at hh
 split at hh
 case h_2 => cases hh
 rename_i b0
 obtain ⟨l0, hx0, hh0⟩ := bO_some hh
 have ex0 := asSl_some hx0
 subst ex0
 obtain ⟨N, t, h, hκ⟩ := callX_some hh0
 refine ⟨_, _, hκ, told_of_run pq okC_16 (fun _ _ _ => drawA_ok pq okC_16 hmix) (E := E_16) (fn := Tryd.f16) (body := B_16) (by kernel_rfl) (by kernel_rfl) (by kernel_rfl) (by rfl) (by exact Nat.le_of_ble_eq_true rfl) (fun k hk => ?_)⟩
 refine (w_16 l0 k).trans ?_
 replace h : spec_DrawBoxText.f N l0 = some t := h
 unfold spec_DrawBoxText.f at h
 refine call_h 0 h (fun t0 e3 h => ?_)
 refine call_h N h (fun t1 e4 h => ?_)
 cases h; exact hk
noncomputable def C_64 : Ctr tau Unit := ctrS 16 c_16 C_16
noncomputable def D_64 : Drw tau := drawA E_64 C_64
theorem okC_64 : CtrOk Tryd.prog TT pnT C_64 := ctrS_ok okC_16 okc_16
theorem mC_64 : CtrMono C_64 := ctrS_mono mC_16 mc_16
theorem mD_64 : DrMono D_64 := drawA_mono mC_64
noncomputable def B_64 : Code := Tryd.f64.body.getD .skip
theorem mc_64 (args : List (AV tau)) (m : Mem tau) (k k' : AV tau → Mem tau → Option Unit) (hk : ∀ av m, k av m = some () → k' av m = some ()) (h : c_64 args m k = some ()) : c_64 args m k' = some () := by
 unfold c_64 at h ⊢
 split at h
 · repeat' first | exact callX_mono (fun _ h => hk _ _ h) h | refine bO_mono (fun _ h => ?_) h
 · cases h
theorem w_64 (a0 : Int) (a1 : Int) (a2 : Int) (k : AV tau → Mem tau → Option Unit) : fnA E_64 C_64 D_64 Tryd.f64 B_64 [.int .i64 a0, .int .i64 a1, .int .i64 a2] ⟨[], []⟩ k = (brA (decide (a0 ≥ a1)) (k (.bool (decide (a0 ≤ a2))) ⟨[], []⟩) (k (.bool false) ⟨[], []⟩) : Option Unit) := by kernel_rfl
theorem okc_64 (args : List (AV tau)) (m : Mem tau) (κ : AV tau → Mem tau → Option Unit) (hh : c_64 args m κ = some ()) : ∃ av m1, κ av m1 = some () ∧ ToldA Tryd.prog TT (pnT 64) 64 args m av m1 := by
 obtain ⟨bx_, rw_⟩ := m
 unfold c_64 at hh
 simp only at hh
 split at hh
 case h_2 => cases hh
 rename_i b0 b1 b2
 obtain ⟨a0, hx0, hh0⟩ := bO_some hh
 obtain ⟨a1, hx1, hh1⟩ := bO_some hh0
 obtain ⟨a2, hx2, hh2⟩ := bO_some hh1
 have ex0 := asI_some hx0
 have ex1 := asI_some hx1
 have ex2 := asI_some hx2
 subst ex0 ex1 ex2
 obtain ⟨N, t, h, hκ⟩ := callX_some hh2
 refine ⟨_, _, hκ, told_of_run pq okC_64 (fun _ _ _ => drawA_ok pq okC_64 hmix) (E := E_64) (fn := Tryd.f64) (body := B_64) (by kernel_rfl) (by kernel_rfl) (by kernel_rfl) (by rfl) (by exact Nat.le_of_ble_eq_true rfl) (fun k hk => ?_)⟩
 refine (w_64 a0 a1 a2 k).trans ?_
 replace h : impl_in.f a0 a1 a2 = some t := h
 unfold impl_in.f at h
 refine br_eti h rfl (fun c2 h => ?_) (fun c2 h => ?_)
 ·cases h; exact hk
 cases h; exact hk
noncomputable def C_20 : Ctr tau Unit := ctrS 64 c_64 C_64
noncomputable def D_20 : Drw tau := drawA E_20 C_20
theorem okC_20 : CtrOk Tryd.prog TT pnT C_20 := ctrS_ok okC_64 okc_64
theorem mC_20 : CtrMono C_20 := ctrS_mono mC_64 mc_64
theorem mD_20 : DrMono D_20 := drawA_mono mC_20
noncomputable def B_20 : Code := Tryd.f20.body.getD .skip
theorem mc_20 (args : List (AV tau)) (m : Mem tau) (k k' : AV tau → Mem tau → Option Unit) (hk : ∀ av m, k av m = some () → k' av m = some ()) (h : c_20 args m k = some ()) : c_20 args m k' = some () := by
 unfold c_20 at h ⊢
 split at h
 · repeat' first | exact callX_mono (fun _ h => hk _ _ h) h | refine bO_mono (fun _ h => ?_) h
 · cases h
noncomputable def K_20_0 (k : AV tau → Mem tau → Option Unit) : Kon tau := (kBlock 0 (kS E_20 C_20 D_20 (codeP B_20 [1, 1]) (kEnd E_20 Tryd.f20 k)))
def st_20_0 (x0 : (List S70)) (x1 : (List S70)) (x2 : Int) (x3 : Int) : St tau := ⟨tmL 25 0 [(0, .sl 70 x0), (5, .sl 70 x1), (6, .int .i64 x2), (7, .int .i64 x3)], ⟨[], []⟩⟩
noncomputable def LP_20_0 (k : AV tau → Mem tau → Option Unit) (x0 : (List S70)) (x1 : (List S70)) (x2 : Int) (x3 : Int) : Option Unit := loopA E_20 (codeA E_20 C_20 D_20 (codeP B_20 [1, 0, 1, 0, 0])) (codeP B_20 [1, 0, 1, 0, 0]) (K_20_0 k) (st_20_0 x0 x1 x2 x3)
theorem w_20_0 (k : AV tau → Mem tau → Option Unit) (x0 : (List S70)) (x1 : (List S70)) (x2 : Int) (x3 : Int) : codeA E_20 C_20 D_20 (codeP B_20 [1, 0, 1, 0, 0]) (kL E_20 C_20 D_20 (codeP B_20 [1, 0, 1, 0, 0]) (K_20_0 k)) (st_20_0 x0 x1 x2 x3) = (brA (decide (x3 < x2)) (brA (decide ((0 : Int) ≤ x3)) (brA (decide (x3 < ((x1.length : Nat) : Int))) (callX (fun n => impl_in.f ((rd_T70 x1 x3).f0) (0 : Int) (1000000 : Int)) fun t0 => brA (!t0) (k (.bool false) ⟨[], []⟩) (callX (fun n => impl_in.f ((rd_T70 x1 x3).f1) (-(1000000 : Int)) (1000000 : Int)) fun t1 => brA (!t1) (k (.bool false) ⟨[], []⟩) (LP_20_0 k x0 x1 x2 (wrap64 (x3 + (1 : Int)))))) (none)) (none)) (k (.bool (decide (((x0.length : Nat) : Int) = (4 : Int)))) ⟨[], []⟩) : Option Unit) := by
 simp only [← wrapA_i64]
 kernel_rfl
theorem w_20 (l0 : List S70) (k : AV tau → Mem tau → Option Unit) : fnA E_20 C_20 D_20 Tryd.f20 B_20 [.sl 70 l0] ⟨[], []⟩ k = (LP_20_0 k l0 l0 ((l0.length : Nat) : Int) (0 : Int) : Option Unit) := by kernel_rfl
def S_20_0 (N : Nat) : Prop := ∀ (k : AV tau → Mem tau → Option Unit) (x0 : (List S70)) (x1 : (List S70)) (x2 : Int) (x3 : Int) (r : Bool), impl_BoxOk.l0 N (x0) (x1) (x2) (x3) = some r → k (.bool (r)) ⟨[], []⟩ = some () → LP_20_0 k x0 x1 x2 x3 = some ()
theorem L_20 (N : Nat) : S_20_0 N := by
 induction N using Nat.strongRecOn with | _ N0 ih =>
 skip
 intro k x0 x1 x2 x3 r h hk
 rcases N0 with _ | N
 · cases h
 first | rw [impl_BoxOk.l0] at h | simp only [impl_BoxOk.l0] at h | (unfold impl_BoxOk.l0 at h; dsimp only at h)
 refine loop_fold mC_20 mD_20 ?_
 refine (w_20_0 k x0 x1 x2 x3).trans ?_
 refine br_eti h rfl (fun c15 h => ?_) (fun c15 h => ?_)
 ·cases h; exact hk
 refine br_g h rfl (fun c16 h => ?_)
 refine br_g h rfl (fun c17 h => ?_)
 refine call_h 0 h (fun t0 e18 h => ?_)
 refine br_etn h (congrArg not dect) (fun c19 h => ?_) (fun c19 h => ?_)
 ·cases h; exact hk
 refine call_h 0 h (fun t1 e20 h => ?_)
 refine br_etn h (congrArg not dect) (fun c21 h => ?_) (fun c21 h => ?_)
 ·cases h; exact hk
 exact (ih N (by omega)) _ _ _ _ _ _ h hk
theorem okc_20 (args : List (AV tau)) (m : Mem tau) (κ : AV tau → Mem tau → Option Unit) (hh : c_20 args m κ = some ()) : ∃ av m1, κ av m1 = some () ∧ ToldA Tryd.prog TT (pnT 20) 20 args m av m1 := by
 obtain ⟨bx_, rw_⟩ := m
 unfold c_20 at hh
 simp only at hh
 split at hh
 case h_2 => cases hh
 rename_i b0
 obtain ⟨l0, hx0, hh0⟩ := bO_some hh
 have ex0 := asSl_some hx0
 subst ex0
 obtain ⟨N, t, h, hκ⟩ := callX_some hh0
 refine ⟨_, _, hκ, told_of_run pq okC_20 (fun _ _ _ => drawA_ok pq okC_20 hmix) (E := E_20) (fn := Tryd.f20) (body := B_20) (by kernel_rfl) (by kernel_rfl) (by kernel_rfl) (by rfl) (by exact Nat.le_of_ble_eq_true rfl) (fun k hk => ?_)⟩
 refine (w_20 l0 k).trans ?_
 replace h : impl_BoxOk.f N l0 = some t := h
 unfold impl_BoxOk.f at h
 exact (L_20 N) _ _ _ _ _ _ h hk
noncomputable def C_62 : Ctr tau Unit := ctrS 20 c_20 C_20
noncomputable def D_62 : Drw tau := drawA E_62 C_62
theorem okC_62 : CtrOk Tryd.prog TT pnT C_62 := ctrS_ok okC_20 okc_20
theorem mC_62 : CtrMono C_62 := ctrS_mono mC_20 mc_20
theorem mD_62 : DrMono D_62 := drawA_mono mC_62
noncomputable def B_62 : Code := Tryd.f62.body.getD .skip
theorem mc_62 (args : List (AV tau)) (m : Mem tau) (k k' : AV tau → Mem tau → Option Unit) (hk : ∀ av m, k av m = some () → k' av m = some ()) (h : c_62 args m k = some ()) : c_62 args m k' = some () := by
 unfold c_62 at h ⊢
 split at h
 · repeat' first | exact callX_mono (fun _ h => hk _ _ h) h | refine bO_mono (fun _ h => ?_) h
 · cases h
theorem w_62 (l0 : List S70) (k : AV tau → Mem tau → Option Unit) : fnA E_62 C_62 D_62 Tryd.f62 B_62 [.sl 70 l0] ⟨[], []⟩ k = (brA (decide (((l0.length : Nat) : Int) = (0 : Int))) (k (.own 0 0) ⟨[], [some ⟨70, ([] : List S70), 0⟩]⟩) (brA (decide ((Int.toNat ((l0.length : Nat) : Int)) ≤ 17592186044416)) (k (.own 0 0) ⟨[], [some ⟨70, ((List.take ((List.replicate (Int.toNat ((l0.length : Nat) : Int)) (⟨(0 : Int), (0 : Int)⟩ : S70)).length) l0) ++ (List.drop l0.length (List.replicate (Int.toNat ((l0.length : Nat) : Int)) (⟨(0 : Int), (0 : Int)⟩ : S70)))), 0⟩]⟩) (none)) : Option Unit) := by kernel_rfl
theorem okc_62 (args : List (AV tau)) (m : Mem tau) (κ : AV tau → Mem tau → Option Unit) (hh : c_62 args m κ = some ()) : ∃ av m1, κ av m1 = some () ∧ ToldA Tryd.prog TT (pnT 62) 62 args m av m1 := by
 obtain ⟨bx_, rw_⟩ := m
 unfold c_62 at hh
 simp only at hh
 split at hh
 case h_2 => cases hh
 rename_i b0
 obtain ⟨l0, hx0, hh0⟩ := bO_some hh
 have ex0 := asSl_some hx0
 subst ex0
 obtain ⟨N, t, h, hκ⟩ := callX_some hh0
 refine ⟨_, _, hκ, told_of_run pq okC_62 (fun _ _ _ => drawA_ok pq okC_62 hmix) (E := E_62) (fn := Tryd.f62) (body := B_62) (by kernel_rfl) (by kernel_rfl) (by kernel_rfl) (by rfl) (by exact Nat.le_of_ble_eq_true rfl) (fun k hk => ?_)⟩
 refine (w_62 l0 k).trans ?_
 replace h : impl_copied_impl_Box.f l0 = some t := h
 unfold impl_copied_impl_Box.f at h
 refine ite_x h (fun c1 h => ?_) (fun _ h => by cases h)
 cases h
 exact copied_of (α := S70) l0 _ _ (k := fun q : List S70 => k (.own 0 0) ⟨[], [some ⟨70, q, 0⟩]⟩) c1 hk
noncomputable def C_65 : Ctr tau Unit := ctrS 62 c_62 C_62
noncomputable def D_65 : Drw tau := drawA E_65 C_65
theorem okC_65 : CtrOk Tryd.prog TT pnT C_65 := ctrS_ok okC_62 okc_62
theorem mC_65 : CtrMono C_65 := ctrS_mono mC_62 mc_62
theorem mD_65 : DrMono D_65 := drawA_mono mC_65
noncomputable def B_65 : Code := Tryd.f65.body.getD .skip
theorem mc_65 (args : List (AV tau)) (m : Mem tau) (k k' : AV tau → Mem tau → Option Unit) (hk : ∀ av m, k av m = some () → k' av m = some ()) (h : c_65 args m k = some ()) : c_65 args m k' = some () := by
 unfold c_65 at h ⊢
 split at h
 · repeat' first | exact callX_mono (fun _ h => hk _ _ h) h | refine bO_mono (fun _ h => ?_) h
 · cases h
theorem w_65 (a0 : Int) (k : AV tau → Mem tau → Option Unit) : fnA E_65 C_65 D_65 Tryd.f65 B_65 [.int .i64 a0] ⟨[], []⟩ k = (brA (decide (a0 ≥ (-(1000000 : Int)))) (k (.bool (decide (a0 ≤ (1000000 : Int)))) ⟨[], []⟩) (k (.bool false) ⟨[], []⟩) : Option Unit) := by kernel_rfl
theorem okc_65 (args : List (AV tau)) (m : Mem tau) (κ : AV tau → Mem tau → Option Unit) (hh : c_65 args m κ = some ()) : ∃ av m1, κ av m1 = some () ∧ ToldA Tryd.prog TT (pnT 65) 65 args m av m1 := by
 obtain ⟨bx_, rw_⟩ := m
 unfold c_65 at hh
 simp only at hh
 split at hh
 case h_2 => cases hh
 rename_i b0
 obtain ⟨a0, hx0, hh0⟩ := bO_some hh
 have ex0 := asI_some hx0
 subst ex0
 obtain ⟨N, t, h, hκ⟩ := callX_some hh0
 refine ⟨_, _, hκ, told_of_run pq okC_65 (fun _ _ _ => drawA_ok pq okC_65 hmix) (E := E_65) (fn := Tryd.f65) (body := B_65) (by kernel_rfl) (by kernel_rfl) (by kernel_rfl) (by rfl) (by exact Nat.le_of_ble_eq_true rfl) (fun k hk => ?_)⟩
 refine (w_65 a0 k).trans ?_
 replace h : spec_l1Num.f a0 = some t := h
 unfold spec_l1Num.f at h
 refine br_eti h rfl (fun c2 h => ?_) (fun c2 h => ?_)
 ·cases h; exact hk
 cases h; exact hk
noncomputable def C_21 : Ctr tau Unit := ctrS 65 c_65 C_65
noncomputable def D_21 : Drw tau := drawA E_21 C_21
theorem okC_21 : CtrOk Tryd.prog TT pnT C_21 := ctrS_ok okC_65 okc_65
theorem mC_21 : CtrMono C_21 := ctrS_mono mC_65 mc_65
theorem mD_21 : DrMono D_21 := drawA_mono mC_21
noncomputable def B_21 : Code := Tryd.f21.body.getD .skip
theorem mc_21 (args : List (AV tau)) (m : Mem tau) (k k' : AV tau → Mem tau → Option Unit) (hk : ∀ av m, k av m = some () → k' av m = some ()) (h : c_21 args m k = some ()) : c_21 args m k' = some () := by
 unfold c_21 at h ⊢
 split at h
 · repeat' first | exact callX_mono (fun _ h => hk _ _ h) h | refine bO_mono (fun _ h => ?_) h
 · cases h
noncomputable def K_21_0 (k : AV tau → Mem tau → Option Unit) : Kon tau := (kBlock 0 (kS E_21 C_21 D_21 (codeP B_21 [1, 1, 1]) (kEnd E_21 Tryd.f21 k)))
def st_21_0 (x0 : (List S70)) (x1 : Int) : St tau := ⟨tmL 36 0 [(0, .sl 70 x0), (3, .int .i64 x1)], ⟨[], []⟩⟩
noncomputable def LP_21_0 (k : AV tau → Mem tau → Option Unit) (x0 : (List S70)) (x1 : Int) : Option Unit := loopA E_21 (codeA E_21 C_21 D_21 (codeP B_21 [1, 1, 0, 1, 0, 0])) (codeP B_21 [1, 1, 0, 1, 0, 0]) (K_21_0 k) (st_21_0 x0 x1)
theorem w_21_0 (k : AV tau → Mem tau → Option Unit) (x0 : (List S70)) (x1 : Int) : codeA E_21 C_21 D_21 (codeP B_21 [1, 1, 0, 1, 0, 0]) (kL E_21 C_21 D_21 (codeP B_21 [1, 1, 0, 1, 0, 0]) (K_21_0 k)) (st_21_0 x0 x1) = (brA (decide (x1 < ((x0.length : Nat) : Int))) (brA (decide ((0 : Int) ≤ x1)) (brA (decide (x1 < ((x0.length : Nat) : Int))) (brA (decide ((rd_T70 x0 x1).f0 < (0 : Int))) (k (.bool false) ⟨[], []⟩) (brA (decide ((0 : Int) ≤ x1)) (brA (decide (x1 < ((x0.length : Nat) : Int))) (brA (decide ((rd_T70 x0 x1).f0 > (1000000 : Int))) (k (.bool false) ⟨[], []⟩) (brA (decide ((0 : Int) ≤ x1)) (brA (decide (x1 < ((x0.length : Nat) : Int))) (callX (fun n => spec_l1Num.f ((rd_T70 x0 x1).f1)) fun t0 => brA (!t0) (k (.bool false) ⟨[], []⟩) (LP_21_0 k x0 (wrap64 (x1 + (1 : Int))))) (none)) (none))) (none)) (none))) (none)) (none)) (k (.bool true) ⟨[], []⟩) : Option Unit) := by
 simp only [← wrapA_i64]
 kernel_rfl
theorem w_21 (l0 : List S70) (k : AV tau → Mem tau → Option Unit) : fnA E_21 C_21 D_21 Tryd.f21 B_21 [.sl 70 l0] ⟨[], []⟩ k = (brA (!(decide (((l0.length : Nat) : Int) = (4 : Int)))) (k (.bool false) ⟨[], []⟩) (LP_21_0 k l0 (0 : Int)) : Option Unit) := by kernel_rfl
def S_21_0 (N : Nat) : Prop := ∀ (k : AV tau → Mem tau → Option Unit) (x0 : (List S70)) (x1 : Int) (r : Bool), spec_BoxOk.l0 N (x0) (x1) = some r → k (.bool (r)) ⟨[], []⟩ = some () → LP_21_0 k x0 x1 = some ()
theorem L_21 (N : Nat) : S_21_0 N := by
 induction N using Nat.strongRecOn with | _ N0 ih =>
 skip
 intro k x0 x1 r h hk
 rcases N0 with _ | N
 · cases h
 first | rw [spec_BoxOk.l0] at h | simp only [spec_BoxOk.l0] at h | (unfold spec_BoxOk.l0 at h; dsimp only at h)
 refine loop_fold mC_21 mD_21 ?_
 refine (w_21_0 k x0 x1).trans ?_
 refine br_eti h rfl (fun c15 h => ?_) (fun c15 h => ?_)
 ·cases h; exact hk
 refine br_g h rfl (fun c16 h => ?_)
 refine br_t (by first | (simp [c15]; done) | (simp; omega) | (simp only [List.length_append, List.length_cons, List.length_nil, List.length_take, List.length_drop] at c15 ⊢; simp; omega) | (simp only [List.length_append, List.length_cons, List.length_nil, List.length_take, List.length_drop] at c15; simp; omega) | (simp_all; done)) ?_
 refine br_ite h rfl (fun c17 h => ?_) (fun c17 h => ?_)
 ·cases h; exact hk
 refine br_t (by first | (simp [c16]; done) | (simp; omega) | (simp only [List.length_append, List.length_cons, List.length_nil, List.length_take, List.length_drop] at c15 ⊢; simp; omega) | (simp only [List.length_append, List.length_cons, List.length_nil, List.length_take, List.length_drop] at c15; simp; omega) | (simp_all; done)) ?_
 refine br_t (by first | (simp [c15]; done) | (simp; omega) | (simp only [List.length_append, List.length_cons, List.length_nil, List.length_take, List.length_drop] at c15 ⊢; simp; omega) | (simp only [List.length_append, List.length_cons, List.length_nil, List.length_take, List.length_drop] at c15; simp; omega) | (simp_all; done)) ?_
 refine br_ite h rfl (fun c18 h => ?_) (fun c18 h => ?_)
 ·cases h; exact hk
 refine br_t (by first | (simp [c16]; done) | (simp; omega) | (simp only [List.length_append, List.length_cons, List.length_nil, List.length_take, List.length_drop] at c15 ⊢; simp; omega) | (simp only [List.length_append, List.length_cons, List.length_nil, List.length_take, List.length_drop] at c15; simp; omega) | (simp_all; done)) ?_
 refine br_t (by first | (simp [c15]; done) | (simp; omega) | (simp only [List.length_append, List.length_cons, List.length_nil, List.length_take, List.length_drop] at c15 ⊢; simp; omega) | (simp only [List.length_append, List.length_cons, List.length_nil, List.length_take, List.length_drop] at c15; simp; omega) | (simp_all; done)) ?_
 refine call_h 0 h (fun t0 e19 h => ?_)
 refine br_etn h (congrArg not dect) (fun c20 h => ?_) (fun c20 h => ?_)
 ·cases h; exact hk
 exact (ih N (by omega)) _ _ _ _ h hk
theorem okc_21 (args : List (AV tau)) (m : Mem tau) (κ : AV tau → Mem tau → Option Unit) (hh : c_21 args m κ = some ()) : ∃ av m1, κ av m1 = some () ∧ ToldA Tryd.prog TT (pnT 21) 21 args m av m1 := by
 obtain ⟨bx_, rw_⟩ := m
 unfold c_21 at hh
 simp only at hh
 split at hh
 case h_2 => cases hh
 rename_i b0
 obtain ⟨l0, hx0, hh0⟩ := bO_some hh
 have ex0 := asSl_some hx0
 subst ex0
 obtain ⟨N, t, h, hκ⟩ := callX_some hh0
 refine ⟨_, _, hκ, told_of_run pq okC_21 (fun _ _ _ => drawA_ok pq okC_21 hmix) (E := E_21) (fn := Tryd.f21) (body := B_21) (by kernel_rfl) (by kernel_rfl) (by kernel_rfl) (by rfl) (by exact Nat.le_of_ble_eq_true rfl) (fun k hk => ?_)⟩
 refine (w_21 l0 k).trans ?_
 replace h : spec_BoxOk.f N l0 = some t := h
 unfold spec_BoxOk.f at h
 refine br_itn h rfl (fun c21 h => ?_) (fun c21 h => ?_)
 ·exact (L_21 N) _ _ _ _ h hk
 cases h; exact hk
noncomputable def C_66 : Ctr tau Unit := ctrS 21 c_21 C_21
noncomputable def D_66 : Drw tau := drawA E_66 C_66
theorem okC_66 : CtrOk Tryd.prog TT pnT C_66 := ctrS_ok okC_21 okc_21
theorem mC_66 : CtrMono C_66 := ctrS_mono mC_21 mc_21
theorem mD_66 : DrMono D_66 := drawA_mono mC_66
noncomputable def B_66 : Code := Tryd.f66.body.getD .skip
theorem mc_66 (args : List (AV tau)) (m : Mem tau) (k k' : AV tau → Mem tau → Option Unit) (hk : ∀ av m, k av m = some () → k' av m = some ()) (h : c_66 args m k = some ()) : c_66 args m k' = some () := by
 unfold c_66 at h ⊢
 split at h
 · repeat' first | exact callX_mono (fun _ h => hk _ _ h) h | refine bO_mono (fun _ h => ?_) h
 · cases h
noncomputable def K_66_0 (k : AV tau → Mem tau → Option Unit) : Kon tau := (kBlock 0 (kS E_66 C_66 D_66 (codeP B_66 [1, 1, 1]) (kEnd E_66 Tryd.f66 k)))
def st_66_0 (x0 : (List S70)) (x1 : (List S70)) (x2 : Int) (x3 : Int) : St tau := ⟨tmL 26 0 [(0, .sl 70 x0), (1, .sl 70 x1), (12, .int .i64 x2), (13, .int .i64 x3)], ⟨[], []⟩⟩
noncomputable def LP_66_0 (k : AV tau → Mem tau → Option Unit) (x0 : (List S70)) (x1 : (List S70)) (x2 : Int) (x3 : Int) : Option Unit := loopA E_66 (codeA E_66 C_66 D_66 (codeP B_66 [1, 1, 0, 1, 0, 0])) (codeP B_66 [1, 1, 0, 1, 0, 0]) (K_66_0 k) (st_66_0 x0 x1 x2 x3)
theorem w_66_0 (k : AV tau → Mem tau → Option Unit) (x0 : (List S70)) (x1 : (List S70)) (x2 : Int) (x3 : Int) : codeA E_66 C_66 D_66 (codeP B_66 [1, 1, 0, 1, 0, 0]) (kL E_66 C_66 D_66 (codeP B_66 [1, 1, 0, 1, 0, 0]) (K_66_0 k)) (st_66_0 x0 x1 x2 x3) = (brA (decide (x3 < x2)) (brA (decide ((0 : Int) ≤ x3)) (brA (decide (x3 < ((x0.length : Nat) : Int))) (brA (decide ((0 : Int) ≤ x3)) (brA (decide (x3 < ((x1.length : Nat) : Int))) (brA (!(((rd_T70 x0 x3).f0 == (rd_T70 x1 x3).f0) && ((rd_T70 x0 x3).f1 == (rd_T70 x1 x3).f1))) (k (.bool false) ⟨[], []⟩) (LP_66_0 k x0 x1 x2 (wrap64 (x3 + (1 : Int))))) (none)) (none)) (none)) (none)) (k (.bool true) ⟨[], []⟩) : Option Unit) := by
 simp only [← wrapA_i64]
 kernel_rfl
theorem w_66 (l0 : List S70) (l1 : List S70) (k : AV tau → Mem tau → Option Unit) : fnA E_66 C_66 D_66 Tryd.f66 B_66 [.sl 70 l0, .sl 70 l1] ⟨[], []⟩ k = (brA (!(decide (((l0.length : Nat) : Int) = ((l1.length : Nat) : Int)))) (k (.bool false) ⟨[], []⟩) (LP_66_0 k l0 l1 ((l0.length : Nat) : Int) (0 : Int)) : Option Unit) := by kernel_rfl
def S_66_0 (N : Nat) : Prop := ∀ (k : AV tau → Mem tau → Option Unit) (x0 : (List S70)) (x1 : (List S70)) (x2 : Int) (x3 : Int) (r : Bool), impl_same_impl_Box.l0 N (x0) (x1) (x2) (x3) = some r → k (.bool (r)) ⟨[], []⟩ = some () → LP_66_0 k x0 x1 x2 x3 = some ()
theorem L_66 (N : Nat) : S_66_0 N := by
 induction N using Nat.strongRecOn with | _ N0 ih =>
 skip
 intro k x0 x1 x2 x3 r h hk
 rcases N0 with _ | N
 · cases h
 first | rw [impl_same_impl_Box.l0] at h | simp only [impl_same_impl_Box.l0] at h | (unfold impl_same_impl_Box.l0 at h; dsimp only at h)
 refine loop_fold mC_66 mD_66 ?_
 refine (w_66_0 k x0 x1 x2 x3).trans ?_
 refine br_eti h rfl (fun c13 h => ?_) (fun c13 h => ?_)
 ·cases h; exact hk
 refine br_g h rfl (fun c14 h => ?_)
 refine br_g h rfl (fun c15 h => ?_)
 refine br_t (by first | (simp [c14]; done) | (simp; omega) | (simp only [List.length_append, List.length_cons, List.length_nil, List.length_take, List.length_drop] at c15 ⊢; simp; omega) | (simp only [List.length_append, List.length_cons, List.length_nil, List.length_take, List.length_drop] at c15; simp; omega) | (simp_all; done)) ?_
 refine br_g h rfl (fun c16 h => ?_)
 refine br_ite h (by first | rfl | exact dect | exact (congrArg not dect) | (simp; done) | (simp [beqI]; done) | (simp; omega)) (fun c17 h => ?_) (fun c17 h => ?_)
 ·cases h; exact hk
 exact (ih N (by omega)) _ _ _ _ _ _ h hk
theorem okc_66 (args : List (AV tau)) (m : Mem tau) (κ : AV tau → Mem tau → Option Unit) (hh : c_66 args m κ = some ()) : ∃ av m1, κ av m1 = some () ∧ ToldA Tryd.prog TT (pnT 66) 66 args m av m1 := by
 obtain ⟨bx_, rw_⟩ := m
 unfold c_66 at hh
 simp only at hh
 split at hh
 case h_2 => cases hh
 rename_i b0 b1
 obtain ⟨l0, hx0, hh0⟩ := bO_some hh
 obtain ⟨l1, hx1, hh1⟩ := bO_some hh0
 have ex0 := asSl_some hx0
 have ex1 := asSl_some hx1
 subst ex0 ex1
 obtain ⟨N, t, h, hκ⟩ := callX_some hh1
 refine ⟨_, _, hκ, told_of_run pq okC_66 (fun _ _ _ => drawA_ok pq okC_66 hmix) (E := E_66) (fn := Tryd.f66) (body := B_66) (by kernel_rfl) (by kernel_rfl) (by kernel_rfl) (by rfl) (by exact Nat.le_of_ble_eq_true rfl) (fun k hk => ?_)⟩
 refine (w_66 l0 l1 k).trans ?_
 replace h : impl_same_impl_Box.f N l0 l1 = some t := h
 unfold impl_same_impl_Box.f at h
 refine br_etn h rfl (fun c18 h => ?_) (fun c18 h => ?_)
 ·cases h; exact hk
 exact (L_66 N) _ _ _ _ _ _ h hk
noncomputable def C_22 : Ctr tau Unit := ctrS 66 c_66 C_66
noncomputable def D_22 : Drw tau := drawA E_22 C_22
theorem okC_22 : CtrOk Tryd.prog TT pnT C_22 := ctrS_ok okC_66 okc_66
theorem mC_22 : CtrMono C_22 := ctrS_mono mC_66 mc_66
theorem mD_22 : DrMono D_22 := drawA_mono mC_22
noncomputable def B_22 : Code := Tryd.f22.body.getD .skip
theorem mc_22 (args : List (AV tau)) (m : Mem tau) (k k' : AV tau → Mem tau → Option Unit) (hk : ∀ av m, k av m = some () → k' av m = some ()) (h : c_22 args m k = some ()) : c_22 args m k' = some () := by
 unfold c_22 at h ⊢
 split at h
 · repeat' first | exact callX_mono (fun _ h => hk _ _ h) h | refine bO_mono (fun _ h => ?_) h
 · cases h
theorem w_22 (l0 : List S70) (l1 : List S70) (k : AV tau → Mem tau → Option Unit) : fnA E_22 C_22 D_22 Tryd.f22 B_22 [.sl 70 l0, .sl 70 l1] ⟨[], []⟩ k = (callX (fun n => impl_same_impl_Box.f n l0 l1) fun t0 => k (.bool t0) ⟨[], []⟩ : Option Unit) := by kernel_rfl
theorem okc_22 (args : List (AV tau)) (m : Mem tau) (κ : AV tau → Mem tau → Option Unit) (hh : c_22 args m κ = some ()) : ∃ av m1, κ av m1 = some () ∧ ToldA Tryd.prog TT (pnT 22) 22 args m av m1 := by
 obtain ⟨bx_, rw_⟩ := m
 unfold c_22 at hh
 simp only at hh
 split at hh
 case h_2 => cases hh
 rename_i b0 b1
 obtain ⟨l0, hx0, hh0⟩ := bO_some hh
 obtain ⟨l1, hx1, hh1⟩ := bO_some hh0
 have ex0 := asSl_some hx0
 have ex1 := asSl_some hx1
 subst ex0 ex1
 obtain ⟨N, t, h, hκ⟩ := callX_some hh1
 refine ⟨_, _, hκ, told_of_run pq okC_22 (fun _ _ _ => drawA_ok pq okC_22 hmix) (E := E_22) (fn := Tryd.f22) (body := B_22) (by kernel_rfl) (by kernel_rfl) (by kernel_rfl) (by rfl) (by exact Nat.le_of_ble_eq_true rfl) (fun k hk => ?_)⟩
 refine (w_22 l0 l1 k).trans ?_
 replace h : impl_BoxSame.f N l0 l1 = some t := h
 unfold impl_BoxSame.f at h
 refine call_h N h (fun t0 e2 h => ?_)
 cases h; exact hk
noncomputable def C_25 : Ctr tau Unit := ctrS 22 c_22 C_22
noncomputable def D_25 : Drw tau := drawA E_25 C_25
theorem okC_25 : CtrOk Tryd.prog TT pnT C_25 := ctrS_ok okC_22 okc_22
theorem mC_25 : CtrMono C_25 := ctrS_mono mC_22 mc_22
theorem mD_25 : DrMono D_25 := drawA_mono mC_25
noncomputable def B_25 : Code := Tryd.f25.body.getD .skip
theorem mc_25 (args : List (AV tau)) (m : Mem tau) (k k' : AV tau → Mem tau → Option Unit) (hk : ∀ av m, k av m = some () → k' av m = some ()) (h : c_25 args m k = some ()) : c_25 args m k' = some () := by
 unfold c_25 at h ⊢
 split at h
 · repeat' first | exact callX_mono (fun _ h => hk _ _ h) h | refine bO_mono (fun _ h => ?_) h
 · cases h
theorem w_25  (k : AV tau → Mem tau → Option Unit) : fnA E_25 C_25 D_25 Tryd.f25 B_25 [] ⟨[], []⟩ k = (k (.own 0 0) ⟨[], [some ⟨70, ([(⟨(0 : Int), (0 : Int)⟩ : S70), (⟨(0 : Int), (0 : Int)⟩ : S70), (⟨(0 : Int), (0 : Int)⟩ : S70), (⟨(0 : Int), (0 : Int)⟩ : S70)] : List S70), 0⟩]⟩ : Option Unit) := by kernel_rfl
theorem okc_25 (args : List (AV tau)) (m : Mem tau) (κ : AV tau → Mem tau → Option Unit) (hh : c_25 args m κ = some ()) : ∃ av m1, κ av m1 = some () ∧ ToldA Tryd.prog TT (pnT 25) 25 args m av m1 := by
 obtain ⟨bx_, rw_⟩ := m
 unfold c_25 at hh
 simp only at hh
 split at hh
 case h_2 => cases hh
 obtain ⟨N, t, h, hκ⟩ := callX_some hh
 refine ⟨_, _, hκ, told_of_run pq okC_25 (fun _ _ _ => drawA_ok pq okC_25 hmix) (E := E_25) (fn := Tryd.f25) (body := B_25) (by kernel_rfl) (by kernel_rfl) (by kernel_rfl) (by rfl) (by exact Nat.le_of_ble_eq_true rfl) (fun k hk => ?_)⟩
 refine (w_25 k).trans ?_
 replace h : impl_BoxOpen.f = some t := h
 unfold impl_BoxOpen.f at h
 replace h := ite_t h (by first | assumption | omega | simp_all)
 cases h; exact hk
noncomputable def C_17 : Ctr tau Unit := ctrS 25 c_25 C_25
noncomputable def D_17 : Drw tau := drawA E_17 C_17
theorem okC_17 : CtrOk Tryd.prog TT pnT C_17 := ctrS_ok okC_25 okc_25
theorem mC_17 : CtrMono C_17 := ctrS_mono mC_25 mc_25
theorem mD_17 : DrMono D_17 := drawA_mono mC_17
noncomputable def B_17 : Code := Tryd.f17.body.getD .skip
theorem mc_17 (args : List (AV tau)) (m : Mem tau) (k k' : AV tau → Mem tau → Option Unit) (hk : ∀ av m, k av m = some () → k' av m = some ()) (h : c_17 args m k = some ()) : c_17 args m k' = some () := by
 unfold c_17 at h ⊢
 split at h
 · repeat' first | exact callX_mono (fun _ h => hk _ _ h) h | refine bO_mono (fun _ h => ?_) h
 · cases h
noncomputable def K_17_0 (k : AV tau → Mem tau → Option Unit) : Kon tau := (kBlock 0 (kS E_17 C_17 D_17 (codeP B_17 [1, 1, 1]) (kEnd E_17 Tryd.f17 k)))
def st_17_0 (x0 : (List S70)) (x1 : Int) (x2 : Int) (x3 : (List ByteArray)) : St tau := ⟨tmL 26 0 [(3, .own 0 0), (6, .sl 70 x0), (7, .int .i64 x1), (8, .int .i64 x2)], ⟨[], [some ⟨9, x3, 0⟩]⟩⟩
noncomputable def LP_17_0 (k : AV tau → Mem tau → Option Unit) (x0 : (List S70)) (x1 : Int) (x2 : Int) (x3 : (List ByteArray)) : Option Unit := loopA E_17 (codeA E_17 C_17 D_17 (codeP B_17 [1, 1, 0, 1, 0, 0])) (codeP B_17 [1, 1, 0, 1, 0, 0]) (K_17_0 k) (st_17_0 x0 x1 x2 x3)
theorem w_17_0 (k : AV tau → Mem tau → Option Unit) (x0 : (List S70)) (x1 : Int) (x2 : Int) (x3 : (List ByteArray)) : codeA E_17 C_17 D_17 (codeP B_17 [1, 1, 0, 1, 0, 0]) (kL E_17 C_17 D_17 (codeP B_17 [1, 1, 0, 1, 0, 0]) (K_17_0 k)) (st_17_0 x0 x1 x2 x3) = (brA (decide (x2 < x1)) (brA (decide ((0 : Int) ≤ x2)) (brA (decide (x2 < ((x0.length : Nat) : Int))) (callX (fun n => strconv_Itoa.f n ((rd_T70 x0 x2).f1)) fun t0 => brA (decide ((t0.size + 1) ≤ 9223372036854775807)) (callX (fun n => strconv_Itoa.f n ((rd_T70 x0 x2).f0)) fun t1 => brA (decide (((t0 ++ (bs [47])).size + t1.size) ≤ 9223372036854775807)) (brA (decide ((x3.length + 1) ≤ 8796093022208)) (LP_17_0 k x0 x1 (wrap64 (x2 + (1 : Int))) (x3 ++ ([((t0 ++ (bs [47])) ++ t1)] : List ByteArray))) (none)) (none)) (none)) (none)) (none)) (callX (fun n => strings_Join.f n x3 (bs [32])) fun t2 => k (.str t2) ⟨[], []⟩) : Option Unit) := by
 simp only [← wrapA_i64]
 kernel_rfl
theorem w_17 (l0 : List S70) (k : AV tau → Mem tau → Option Unit) : fnA E_17 C_17 D_17 Tryd.f17 B_17 [.sl 70 l0] ⟨[], []⟩ k = (LP_17_0 k l0 ((l0.length : Nat) : Int) (0 : Int) ([] : List ByteArray) : Option Unit) := by kernel_rfl
def S_17_0 (N : Nat) : Prop := ∀ (k : AV tau → Mem tau → Option Unit) (x0 : (List S70)) (x1 : Int) (x2 : Int) (x3 : (List ByteArray)) (r : ByteArray), impl_BoxText.l0 N (x0) (x1) (x2) (x3) = some r → k (.str (r)) ⟨[], []⟩ = some () → LP_17_0 k x0 x1 x2 x3 = some ()
theorem L_17 (N : Nat) : S_17_0 N := by
 induction N using Nat.strongRecOn with | _ N0 ih =>
 skip
 intro k x0 x1 x2 x3 r h hk
 rcases N0 with _ | N
 · cases h
 first | rw [impl_BoxText.l0] at h | simp only [impl_BoxText.l0] at h | (unfold impl_BoxText.l0 at h; dsimp only at h)
 refine loop_fold mC_17 mD_17 ?_
 refine (w_17_0 k x0 x1 x2 x3).trans ?_
 refine br_eti h rfl (fun c19 h => ?_) (fun c19 h => ?_)
 ·refine call_h N h (fun t2 e20 h => ?_)
  cases h; exact hk
 refine br_g h rfl (fun c21 h => ?_)
 refine br_g h rfl (fun c22 h => ?_)
 refine call_h N h (fun t0 e23 h => ?_)
 refine br_g h rfl (fun c24 h => ?_)
 refine call_h N h (fun t1 e25 h => ?_)
 refine br_g h rfl (fun c26 h => ?_)
 refine br_g h rfl (fun c27 h => ?_)
 exact (ih N (by omega)) _ _ _ _ _ _ h hk
theorem okc_17 (args : List (AV tau)) (m : Mem tau) (κ : AV tau → Mem tau → Option Unit) (hh : c_17 args m κ = some ()) : ∃ av m1, κ av m1 = some () ∧ ToldA Tryd.prog TT (pnT 17) 17 args m av m1 := by
 obtain ⟨bx_, rw_⟩ := m
 unfold c_17 at hh
 simp only at hh
 split at hh
 case h_2 => cases hh
 rename_i b0
 obtain ⟨l0, hx0, hh0⟩ := bO_some hh
 have ex0 := asSl_some hx0
 subst ex0
 obtain ⟨N, t, h, hκ⟩ := callX_some hh0
 refine ⟨_, _, hκ, told_of_run pq okC_17 (fun _ _ _ => drawA_ok pq okC_17 hmix) (E := E_17) (fn := Tryd.f17) (body := B_17) (by kernel_rfl) (by kernel_rfl) (by kernel_rfl) (by rfl) (by exact Nat.le_of_ble_eq_true rfl) (fun k hk => ?_)⟩
 refine (w_17 l0 k).trans ?_
 replace h : impl_BoxText.f N l0 = some t := h
 unfold impl_BoxText.f at h
 exact (L_17 N) _ _ _ _ _ _ h hk
noncomputable def C_61 : Ctr tau Unit := ctrS 17 c_17 C_17
noncomputable def D_61 : Drw tau := drawA E_61 C_61
theorem okC_61 : CtrOk Tryd.prog TT pnT C_61 := ctrS_ok okC_17 okc_17
theorem mC_61 : CtrMono C_61 := ctrS_mono mC_17 mc_17
theorem mD_61 : DrMono D_61 := drawA_mono mC_61
noncomputable def B_61 : Code := Tryd.f61.body.getD .skip
theorem mc_61 (args : List (AV tau)) (m : Mem tau) (k k' : AV tau → Mem tau → Option Unit) (hk : ∀ av m, k av m = some () → k' av m = some ()) (h : c_61 args m k = some ()) : c_61 args m k' = some () := by
 unfold c_61 at h ⊢
 split at h
 · repeat' first | exact callX_mono (fun _ h => hk _ _ h) h | refine bO_mono (fun _ h => ?_) h
 · cases h
noncomputable def K_61_0 (k : AV tau → Mem tau → Option Unit) : Kon tau := (kBlock 0 (kS E_61 C_61 D_61 (codeP B_61 [1, 1, 1, 1, 1]) (kEnd E_61 Tryd.f61 k)))
def st_61_0 (x0 : ByteArray) (x1 : ByteArray) (x2 : Int) (x3 : Int) : St tau := ⟨tmL 62 0 [(0, .str x0), (4, .str x1), (5, .int .i64 x2), (6, .int .i64 x3)], ⟨[], []⟩⟩
noncomputable def LP_61_0 (k : AV tau → Mem tau → Option Unit) (x0 : ByteArray) (x1 : ByteArray) (x2 : Int) (x3 : Int) : Option Unit := loopA E_61 (codeA E_61 C_61 D_61 (codeP B_61 [1, 1, 1, 1, 0, 1, 0, 0])) (codeP B_61 [1, 1, 1, 1, 0, 1, 0, 0]) (K_61_0 k) (st_61_0 x0 x1 x2 x3)
theorem w_61_0 (k : AV tau → Mem tau → Option Unit) (x0 : ByteArray) (x1 : ByteArray) (x2 : Int) (x3 : Int) : codeA E_61 C_61 D_61 (codeP B_61 [1, 1, 1, 1, 0, 1, 0, 0]) (kL E_61 C_61 D_61 (codeP B_61 [1, 1, 1, 1, 0, 1, 0, 0]) (K_61_0 k)) (st_61_0 x0 x1 x2 x3) = (brA (decide (x3 < ((x1.size : Nat) : Int))) (brA (decide ((0 : Int) ≤ x3)) (brA (decide (x3 < ((x1.size : Nat) : Int))) (callX (fun n => impl_in.f (wrap64 (btA x1 x3)) (48 : Int) (57 : Int)) fun t1 => brA (!t1) (k (.tup [.int .i64 (0 : Int), .bool false]) ⟨[], []⟩) (brA (decide ((0 : Int) ≤ x3)) (brA (decide (x3 < ((x1.size : Nat) : Int))) (LP_61_0 k x0 x1 (wrap64 ((wrap64 ((10 : Int) * x2)) + (wrap64 (IntKind.wrap .u8 ((btA x1 x3) - (48 : Int)))))) (wrap64 (x3 + (1 : Int)))) (none)) (none))) (none)) (none)) (brA (decide (((x0.size : Nat) : Int) > ((x1.size : Nat) : Int))) (k (.tup [.int .i64 (wrap64 ((0 : Int) - x2)), .bool true]) ⟨[], []⟩) (k (.tup [.int .i64 x2, .bool true]) ⟨[], []⟩)) : Option Unit) := by
 simp only [← wrapA_i64]
 kernel_rfl
theorem w_61 (a0 : ByteArray) (k : AV tau → Mem tau → Option Unit) : fnA E_61 C_61 D_61 Tryd.f61 B_61 [.str a0] ⟨[], []⟩ k = (callX (fun n => strings_TrimPrefix.f n a0 (bs [45])) fun t0 => brA (decide (((t0.size : Nat) : Int) < (1 : Int))) (k (.tup [.int .i64 (0 : Int), .bool false]) ⟨[], []⟩) (brA (decide (((t0.size : Nat) : Int) > (9 : Int))) (k (.tup [.int .i64 (0 : Int), .bool false]) ⟨[], []⟩) (brA (decide ((0 : Int) < ((t0.size : Nat) : Int))) (brA (decide ((btA t0 (0 : Int)) = (48 : Int))) (brA (decide (((t0.size : Nat) : Int) > (1 : Int))) (k (.tup [.int .i64 (0 : Int), .bool false]) ⟨[], []⟩) (brA (decide (((a0.size : Nat) : Int) > ((t0.size : Nat) : Int))) (k (.tup [.int .i64 (0 : Int), .bool false]) ⟨[], []⟩) (LP_61_0 k a0 t0 (0 : Int) (0 : Int)))) (LP_61_0 k a0 t0 (0 : Int) (0 : Int))) (none))) : Option Unit) := by kernel_rfl
def S_61_0 (N : Nat) : Prop := ∀ (k : AV tau → Mem tau → Option Unit) (x0 : ByteArray) (x1 : ByteArray) (x2 : Int) (x3 : Int) (r : Int × Bool), impl_integer.l0 N (x0) (x1) (x2) (x3) = some r → k (.tup [.int .i64 (r.1), .bool (r.2)]) ⟨[], []⟩ = some () → LP_61_0 k x0 x1 x2 x3 = some ()
theorem L_61 (N : Nat) : S_61_0 N := by
 induction N using Nat.strongRecOn with | _ N0 ih =>
 skip
 intro k x0 x1 x2 x3 r h hk
 rcases N0 with _ | N
 · cases h
 first | rw [impl_integer.l0] at h | simp only [impl_integer.l0] at h | (unfold impl_integer.l0 at h; dsimp only at h)
 refine loop_fold mC_61 mD_61 ?_
 refine (w_61_0 k x0 x1 x2 x3).trans ?_
 refine br_eti h rfl (fun c31 h => ?_) (fun c31 h => ?_)
 ·refine br_eti h rfl (fun c32 h => ?_) (fun c32 h => ?_)
  ·cases h; exact hk
  cases h; exact hk
 refine br_g h rfl (fun c33 h => ?_)
 refine br_g h rfl (fun c34 h => ?_)
 refine call_h 0 h (fun t1 e35 h => ?_)
 refine br_etn h (congrArg not dect) (fun c36 h => ?_) (fun c36 h => ?_)
 ·cases h; exact hk
 refine br_g h rfl (fun c37 h => ?_)
 refine br_g h rfl (fun c38 h => ?_)
 exact (ih N (by omega)) _ _ _ _ _ _ h hk
theorem okc_61 (args : List (AV tau)) (m : Mem tau) (κ : AV tau → Mem tau → Option Unit) (hh : c_61 args m κ = some ()) : ∃ av m1, κ av m1 = some () ∧ ToldA Tryd.prog TT (pnT 61) 61 args m av m1 := by
 obtain ⟨bx_, rw_⟩ := m
 unfold c_61 at hh
 simp only at hh
 split at hh
 case h_2 => cases hh
 rename_i b0
 obtain ⟨a0, hx0, hh0⟩ := bO_some hh
 have ex0 := asS_some hx0
 subst ex0
 obtain ⟨N, t, h, hκ⟩ := callX_some hh0
 refine ⟨_, _, hκ, told_of_run pq okC_61 (fun _ _ _ => drawA_ok pq okC_61 hmix) (E := E_61) (fn := Tryd.f61) (body := B_61) (by kernel_rfl) (by kernel_rfl) (by kernel_rfl) (by rfl) (by exact Nat.le_of_ble_eq_true rfl) (fun k hk => ?_)⟩
 refine (w_61 a0 k).trans ?_
 replace h : impl_integer.f N a0 = some t := h
 unfold impl_integer.f at h
 refine call_h N h (fun t0 e39 h => ?_)
 refine br_ite h rfl (fun c40 h => ?_) (fun c40 h => ?_)
 ·cases h; exact hk
 refine br_ite h rfl (fun c41 h => ?_) (fun c41 h => ?_)
 ·cases h; exact hk
 refine br_g h rfl (fun c42 h => ?_)
 refine br_eti h rfl (fun c43 h => ?_) (fun c43 h => ?_)
 ·exact (L_61 N) _ _ _ _ _ _ h hk
 refine br_ite h rfl (fun c44 h => ?_) (fun c44 h => ?_)
 ·cases h; exact hk
 refine br_eti h rfl (fun c45 h => ?_) (fun c45 h => ?_)
 ·exact (L_61 N) _ _ _ _ _ _ h hk
 cases h; exact hk
noncomputable def C_18 : Ctr tau Unit := ctrS 61 c_61 C_61
noncomputable def D_18 : Drw tau := drawA E_18 C_18
theorem okC_18 : CtrOk Tryd.prog TT pnT C_18 := ctrS_ok okC_61 okc_61
theorem mC_18 : CtrMono C_18 := ctrS_mono mC_61 mc_61
theorem mD_18 : DrMono D_18 := drawA_mono mC_18
noncomputable def B_18 : Code := Tryd.f18.body.getD .skip
theorem mc_18 (args : List (AV tau)) (m : Mem tau) (k k' : AV tau → Mem tau → Option Unit) (hk : ∀ av m, k av m = some () → k' av m = some ()) (h : c_18 args m k = some ()) : c_18 args m k' = some () := by
 unfold c_18 at h ⊢
 split at h
 · repeat' first | exact callX_mono (fun _ h => hk _ _ h) h | refine bO_mono (fun _ h => ?_) h
 · cases h
noncomputable def K_18_0 (k : AV tau → Mem tau → Option Unit) : Kon tau := (kBlock 0 (kS E_18 C_18 D_18 (codeP B_18 [1, 1, 1, 1]) (kEnd E_18 Tryd.f18 k)))
def st_18_0 (x0 : ByteArray) (x1 : Int) (x2 : Int) (x3 : (List S70)) (x4 : (List ByteArray)) : St tau := ⟨tmL 64 0 [(0, .str x0), (4, .own 0 0), (18, .own 1 0), (19, .int .i64 x1), (20, .int .i64 x2)], ⟨[], [some ⟨70, x3, 0⟩, some ⟨9, x4, 0⟩]⟩⟩
noncomputable def LP_18_0 (k : AV tau → Mem tau → Option Unit) (x0 : ByteArray) (x1 : Int) (x2 : Int) (x3 : (List S70)) (x4 : (List ByteArray)) : Option Unit := loopA E_18 (codeA E_18 C_18 D_18 (codeP B_18 [1, 1, 1, 0, 1, 0, 0])) (codeP B_18 [1, 1, 1, 0, 1, 0, 0]) (K_18_0 k) (st_18_0 x0 x1 x2 x3 x4)
theorem w_18_0 (k : AV tau → Mem tau → Option Unit) (x0 : ByteArray) (x1 : Int) (x2 : Int) (x3 : (List S70)) (x4 : (List ByteArray)) : codeA E_18 C_18 D_18 (codeP B_18 [1, 1, 1, 0, 1, 0, 0]) (kL E_18 C_18 D_18 (codeP B_18 [1, 1, 1, 0, 1, 0, 0]) (K_18_0 k)) (st_18_0 x0 x1 x2 x3 x4) = (brA (decide (x2 < x1)) (brA (decide ((0 : Int) ≤ x2)) (brA (decide (x2 < ((x4.length : Nat) : Int))) (callX (fun n => strings_Cut.f n (rdOf (default : ByteArray) x4 x2) (bs [47])) fun t1 => callX (fun n => impl_integer.f n t1.1) fun t2 => callX (fun n => impl_integer.f n t1.2.1) fun t3 => brA (!t2.2) (k (.tup [.own 0 0, .bool false]) ⟨[], [some ⟨70, ([] : List S70), 0⟩]⟩) (brA (!t3.2) (k (.tup [.own 0 0, .bool false]) ⟨[], [some ⟨70, ([] : List S70), 0⟩]⟩) (brA (decide ((x3.length + 1) ≤ 8796093022208)) (LP_18_0 k x0 x1 (wrap64 (x2 + (1 : Int))) (x3 ++ ([(⟨t3.1, t2.1⟩ : S70)] : List S70)) x4) (none)))) (none)) (none)) (callX (fun n => impl_BoxOk.f n x3) fun t4 => brA (!t4) (k (.tup [.own 0 0, .bool false]) ⟨[], [some ⟨70, ([] : List S70), 0⟩]⟩) (callX (fun n => impl_BoxText.f n x3) fun t5 => brA (!(decide (t5 = x0))) (k (.tup [.own 0 0, .bool false]) ⟨[], [some ⟨70, ([] : List S70), 0⟩]⟩) (callX (fun n => impl_copied_impl_Box.f x3) fun t6 => k (.tup [.own 0 0, .bool true]) ⟨[], [some ⟨70, t6, 0⟩]⟩))) : Option Unit) := by
 simp only [← wrapA_i64]
 kernel_rfl
theorem w_18 (a0 : ByteArray) (k : AV tau → Mem tau → Option Unit) : fnA E_18 C_18 D_18 Tryd.f18 B_18 [.str a0] ⟨[], []⟩ k = (brA (decide (((a0.size : Nat) : Int) > (100 : Int))) (k (.tup [.own 0 0, .bool false]) ⟨[], [some ⟨70, ([] : List S70), 0⟩]⟩) (callX (fun n => strings_Split.f n a0 (bs [32])) fun t0 => LP_18_0 k a0 ((t0.length : Nat) : Int) (0 : Int) ([] : List S70) t0) : Option Unit) := by kernel_rfl
def S_18_0 (N : Nat) : Prop := ∀ (k : AV tau → Mem tau → Option Unit) (x0 : ByteArray) (x1 : Int) (x2 : Int) (x3 : (List S70)) (x4 : (List ByteArray)) (r : (List S70) × Bool), impl_BoxRead.l0 N (x0) (x1) (x2) (x3) (x4) = some r → k (.tup [.own 0 0, .bool (r.2)]) ⟨[], [some ⟨70, r.1, 0⟩]⟩ = some () → LP_18_0 k x0 x1 x2 x3 x4 = some ()
theorem L_18 (N : Nat) : S_18_0 N := by
 induction N using Nat.strongRecOn with | _ N0 ih =>
 skip
 intro k x0 x1 x2 x3 x4 r h hk
 rcases N0 with _ | N
 · cases h
 first | rw [impl_BoxRead.l0] at h | simp only [impl_BoxRead.l0] at h | (unfold impl_BoxRead.l0 at h; dsimp only at h)
 refine loop_fold mC_18 mD_18 ?_
 refine (w_18_0 k x0 x1 x2 x3 x4).trans ?_
 refine br_eti h rfl (fun c33 h => ?_) (fun c33 h => ?_)
 ·refine call_h N h (fun t4 e34 h => ?_)
  refine br_etn h (congrArg not dect) (fun c35 h => ?_) (fun c35 h => ?_)
  ·cases h; exact hk
  refine call_h N h (fun t5 e36 h => ?_)
  refine br_etn h rfl (fun c37 h => ?_) (fun c37 h => ?_)
  ·cases h; exact hk
  refine call_h 0 h (fun t6 e38 h => ?_)
  cases h; exact hk
 refine br_g h rfl (fun c39 h => ?_)
 refine br_g h rfl (fun c40 h => ?_)
 refine call_h N h (fun t1 e41 h => ?_)
 refine call_h N h (fun t2 e42 h => ?_)
 refine call_h N h (fun t3 e43 h => ?_)
 refine br_etn h (congrArg not dect) (fun c44 h => ?_) (fun c44 h => ?_)
 ·cases h; exact hk
 refine br_etn h (congrArg not dect) (fun c45 h => ?_) (fun c45 h => ?_)
 ·cases h; exact hk
 refine br_g h rfl (fun c46 h => ?_)
 exact (ih N (by omega)) _ _ _ _ _ _ _ h hk
theorem okc_18 (args : List (AV tau)) (m : Mem tau) (κ : AV tau → Mem tau → Option Unit) (hh : c_18 args m κ = some ()) : ∃ av m1, κ av m1 = some () ∧ ToldA Tryd.prog TT (pnT 18) 18 args m av m1 := by
 obtain ⟨bx_, rw_⟩ := m
 unfold c_18 at hh
 simp only at hh
 split at hh
 case h_2 => cases hh
 rename_i b0
 obtain ⟨a0, hx0, hh0⟩ := bO_some hh
 have ex0 := asS_some hx0
 subst ex0
 obtain ⟨N, t, h, hκ⟩ := callX_some hh0
 refine ⟨_, _, hκ, told_of_run pq okC_18 (fun _ _ _ => drawA_ok pq okC_18 hmix) (E := E_18) (fn := Tryd.f18) (body := B_18) (by kernel_rfl) (by kernel_rfl) (by kernel_rfl) (by rfl) (by exact Nat.le_of_ble_eq_true rfl) (fun k hk => ?_)⟩
 refine (w_18 a0 k).trans ?_
 replace h : impl_BoxRead.f N a0 = some t := h
 unfold impl_BoxRead.f at h
 refine br_ite h rfl (fun c47 h => ?_) (fun c47 h => ?_)
 ·cases h; exact hk
 refine call_h N h (fun t0 e48 h => ?_)
 exact (L_18 N) _ _ _ _ _ _ _ h hk
noncomputable def C_19 : Ctr tau Unit := ctrS 18 c_18 C_18
noncomputable def D_19 : Drw tau := drawA E_19 C_19
theorem okC_19 : CtrOk Tryd.prog TT pnT C_19 := ctrS_ok okC_18 okc_18
theorem mC_19 : CtrMono C_19 := ctrS_mono mC_18 mc_18
theorem mD_19 : DrMono D_19 := drawA_mono mC_19
noncomputable def B_19 : Code := Tryd.f19.body.getD .skip
theorem mc_19 (args : List (AV tau)) (m : Mem tau) (k k' : AV tau → Mem tau → Option Unit) (hk : ∀ av m, k av m = some () → k' av m = some ()) (h : c_19 args m k = some ()) : c_19 args m k' = some () := by
 unfold c_19 at h ⊢
 split at h
 · repeat' first | exact callX_mono (fun _ h => hk _ _ h) h | refine bO_mono (fun _ h => ?_) h
 · cases h
noncomputable def K_19_0 (k : AV tau → Mem tau → Option Unit) : Kon tau := (kBlock 0 (kS E_19 C_19 D_19 (codeP B_19 [1, 1, 1]) (kEnd E_19 Tryd.f19 k)))
def st_19_0 (x0 : (List S70)) (x1 : ByteArray) (x2 : Int) : St tau := ⟨tmL 32 0 [(0, .sl 70 x0), (3, .str x1), (4, .int .i64 x2)], ⟨[], []⟩⟩
noncomputable def LP_19_0 (k : AV tau → Mem tau → Option Unit) (x0 : (List S70)) (x1 : ByteArray) (x2 : Int) : Option Unit := loopA E_19 (codeA E_19 C_19 D_19 (codeP B_19 [1, 1, 0, 1, 0, 0])) (codeP B_19 [1, 1, 0, 1, 0, 0]) (K_19_0 k) (st_19_0 x0 x1 x2)
theorem w_19_0 (k : AV tau → Mem tau → Option Unit) (x0 : (List S70)) (x1 : ByteArray) (x2 : Int) : codeA E_19 C_19 D_19 (codeP B_19 [1, 1, 0, 1, 0, 0]) (kL E_19 C_19 D_19 (codeP B_19 [1, 1, 0, 1, 0, 0]) (K_19_0 k)) (st_19_0 x0 x1 x2) = (brA (decide (x2 < ((x0.length : Nat) : Int))) (brA (decide (x2 > (0 : Int))) (brA (decide ((x1.size + 1) ≤ 9223372036854775807)) (brA (decide ((0 : Int) ≤ x2)) (brA (decide (x2 < ((x0.length : Nat) : Int))) (brA (decide ((0 : Int) ≤ x2)) (brA (decide (x2 < ((x0.length : Nat) : Int))) (callX (fun n => spec_l15Dec.f n ((rd_T70 x0 x2).f1)) fun t0 => brA (decide (((x1 ++ (bs [32])).size + t0.size) ≤ 9223372036854775807)) (brA (decide ((((x1 ++ (bs [32])) ++ t0).size + 1) ≤ 9223372036854775807)) (callX (fun n => spec_l15Dec.f n ((rd_T70 x0 x2).f0)) fun t1 => brA (decide (((((x1 ++ (bs [32])) ++ t0) ++ (bs [47])).size + t1.size) ≤ 9223372036854775807)) (LP_19_0 k x0 ((((x1 ++ (bs [32])) ++ t0) ++ (bs [47])) ++ t1) (wrap64 (x2 + (1 : Int)))) (none)) (none)) (none)) (none)) (none)) (none)) (none)) (none)) (brA (decide ((0 : Int) ≤ x2)) (brA (decide (x2 < ((x0.length : Nat) : Int))) (brA (decide ((0 : Int) ≤ x2)) (brA (decide (x2 < ((x0.length : Nat) : Int))) (callX (fun n => spec_l15Dec.f n ((rd_T70 x0 x2).f1)) fun t2 => brA (decide ((x1.size + t2.size) ≤ 9223372036854775807)) (brA (decide (((x1 ++ t2).size + 1) ≤ 9223372036854775807)) (callX (fun n => spec_l15Dec.f n ((rd_T70 x0 x2).f0)) fun t3 => brA (decide ((((x1 ++ t2) ++ (bs [47])).size + t3.size) ≤ 9223372036854775807)) (LP_19_0 k x0 (((x1 ++ t2) ++ (bs [47])) ++ t3) (wrap64 (x2 + (1 : Int)))) (none)) (none)) (none)) (none)) (none)) (none)) (none))) (k (.str x1) ⟨[], []⟩) : Option Unit) := by
 simp only [← wrapA_i64]
 kernel_rfl
theorem w_19 (l0 : List S70) (k : AV tau → Mem tau → Option Unit) : fnA E_19 C_19 D_19 Tryd.f19 B_19 [.sl 70 l0] ⟨[], []⟩ k = (LP_19_0 k l0 (bs []) (0 : Int) : Option Unit) := by kernel_rfl
def S_19_0 (N : Nat) : Prop := ∀ (k : AV tau → Mem tau → Option Unit) (x0 : (List S70)) (x1 : ByteArray) (x2 : Int) (r : ByteArray), spec_BoxText.l0 N (x0) (x1) (x2) = some r → k (.str (r)) ⟨[], []⟩ = some () → LP_19_0 k x0 x1 x2 = some ()
theorem L_19 (N : Nat) : S_19_0 N := by
 induction N using Nat.strongRecOn with | _ N0 ih =>
 skip
 intro k x0 x1 x2 r h hk
 rcases N0 with _ | N
 · cases h
 first | rw [spec_BoxText.l0] at h | simp only [spec_BoxText.l0] at h | (unfold spec_BoxText.l0 at h; dsimp only at h)
 refine loop_fold mC_19 mD_19 ?_
 refine (w_19_0 k x0 x1 x2).trans ?_
 refine br_eti h rfl (fun c43 h => ?_) (fun c43 h => ?_)
 ·cases h; exact hk
 refine br_eti h rfl (fun c44 h => ?_) (fun c44 h => ?_)
 ·refine br_g h rfl (fun c45 h => ?_)
  refine br_g h rfl (fun c46 h => ?_)
  refine br_g h rfl (fun c47 h => ?_)
  refine br_g h rfl (fun c48 h => ?_)
  refine call_h N h (fun t2 e49 h => ?_)
  refine br_g h rfl (fun c50 h => ?_)
  refine br_g h rfl (fun c51 h => ?_)
  refine call_h N h (fun t3 e52 h => ?_)
  refine br_g h rfl (fun c53 h => ?_)
  exact (ih N (by omega)) _ _ _ _ _ h hk
 refine br_g h rfl (fun c54 h => ?_)
 refine br_g h rfl (fun c55 h => ?_)
 refine br_g h rfl (fun c56 h => ?_)
 refine br_g h rfl (fun c57 h => ?_)
 refine br_g h rfl (fun c58 h => ?_)
 refine call_h N h (fun t0 e59 h => ?_)
 refine br_g h rfl (fun c60 h => ?_)
 refine br_g h rfl (fun c61 h => ?_)
 refine call_h N h (fun t1 e62 h => ?_)
 refine br_g h rfl (fun c63 h => ?_)
 exact (ih N (by omega)) _ _ _ _ _ h hk
theorem okc_19 (args : List (AV tau)) (m : Mem tau) (κ : AV tau → Mem tau → Option Unit) (hh : c_19 args m κ = some ()) : ∃ av m1, κ av m1 = some () ∧ ToldA Tryd.prog TT (pnT 19) 19 args m av m1 := by
 obtain ⟨bx_, rw_⟩ := m
 unfold c_19 at hh
 simp only at hh
 split at hh
 case h_2 => cases hh
 rename_i b0
 obtain ⟨l0, hx0, hh0⟩ := bO_some hh
 have ex0 := asSl_some hx0
 subst ex0
 obtain ⟨N, t, h, hκ⟩ := callX_some hh0
 refine ⟨_, _, hκ, told_of_run pq okC_19 (fun _ _ _ => drawA_ok pq okC_19 hmix) (E := E_19) (fn := Tryd.f19) (body := B_19) (by kernel_rfl) (by kernel_rfl) (by kernel_rfl) (by rfl) (by exact Nat.le_of_ble_eq_true rfl) (fun k hk => ?_)⟩
 refine (w_19 l0 k).trans ?_
 replace h : spec_BoxText.f N l0 = some t := h
 unfold spec_BoxText.f at h
 exact (L_19 N) _ _ _ _ _ h hk
noncomputable def C_68 : Ctr tau Unit := ctrS 19 c_19 C_19
noncomputable def D_68 : Drw tau := drawA E_68 C_68
theorem okC_68 : CtrOk Tryd.prog TT pnT C_68 := ctrS_ok okC_19 okc_19
theorem mC_68 : CtrMono C_68 := ctrS_mono mC_19 mc_19
theorem mD_68 : DrMono D_68 := drawA_mono mC_68
noncomputable def B_68 : Code := Tryd.f68.body.getD .skip
theorem mc_68 (args : List (AV tau)) (m : Mem tau) (k k' : AV tau → Mem tau → Option Unit) (hk : ∀ av m, k av m = some () → k' av m = some ()) (h : c_68 args m k = some ()) : c_68 args m k' = some () := by
 unfold c_68 at h ⊢
 split at h
 · repeat' first | exact callX_mono (fun _ h => hk _ _ h) h | refine bO_mono (fun _ h => ?_) h
 · cases h
theorem w_68 (s0_0 : List Int) (s0_1 : Int) (l1 : List ByteArray) (k : AV tau → Mem tau → Option Unit) : fnA E_68 C_68 D_68 Tryd.f68 B_68 [.ptr 0 0, .own 0 0] ⟨[some (98, [.sl 5 s0_0, .int .i64 s0_1])], [some ⟨9, l1, 0⟩]⟩ k = (callX (fun n => spec_l15Rd_pick.f n s0_0 s0_1 ((l1.length : Nat) : Int)) fun t0 => brA (decide ((0 : Int) ≤ t0.1)) (brA (decide (t0.1 < ((l1.length : Nat) : Int))) (k (.str (rdOf (default : ByteArray) l1 t0.1)) ⟨[some (98, [.sl 5 s0_0, .int .i64 t0.2])], [some ⟨9, l1, 0⟩]⟩) (none)) (none) : Option Unit) := by kernel_rfl
theorem okc_68 (args : List (AV tau)) (m : Mem tau) (κ : AV tau → Mem tau → Option Unit) (hh : c_68 args m κ = some ()) : ∃ av m1, κ av m1 = some () ∧ ToldA Tryd.prog TT (pnT 68) 68 args m av m1 := by
 obtain ⟨bx_, rw_⟩ := m
 unfold c_68 at hh
 simp only at hh
 split at hh
 case h_2 => cases hh
 rename_i p0 b0 t0_ c0_0 c0_1 r0
 obtain ⟨u4, hx0, hh0⟩ := bO_some hh
 obtain ⟨u5, hx1, hh1⟩ := bO_some hh0
 obtain ⟨s0_0, hx2, hh2⟩ := bO_some hh1
 obtain ⟨s0_1, hx3, hh3⟩ := bO_some hh2
 obtain ⟨u6, hx4, hh4⟩ := bO_some hh3
 obtain ⟨l1, hx5, hh5⟩ := bO_some hh4
 have ex0 := asPtr_some hx0
 have ex1 := asT_some hx1
 have ex2 := asSl_some hx2
 have ex3 := asI_some hx3
 have ex4 := asOwn_some hx4
 have ex5 := asRow_some hx5
 subst ex0 ex1 ex2 ex3 ex4 ex5
 obtain ⟨N, t, h, hκ⟩ := callX_some hh5
 refine ⟨_, _, hκ, told_of_run pq okC_68 (fun _ _ _ => drawA_ok pq okC_68 hmix) (E := E_68) (fn := Tryd.f68) (body := B_68) (by kernel_rfl) (by kernel_rfl) (by kernel_rfl) (by rfl) (by exact Nat.le_of_ble_eq_true rfl) (fun k hk => ?_)⟩
 refine (w_68 s0_0 s0_1 l1 k).trans ?_
 replace h : spec_l15Rd_of.f N s0_0 s0_1 l1 = some t := h
 unfold spec_l15Rd_of.f at h
 refine call_h N h (fun t0 e7 h => ?_)
 refine br_g h rfl (fun c8 h => ?_)
 refine br_g h rfl (fun c9 h => ?_)
 cases h; exact hk
noncomputable def C_23 : Ctr tau Unit := ctrS 68 c_68 C_68
noncomputable def D_23 : Drw tau := drawA E_23 C_23
theorem okC_23 : CtrOk Tryd.prog TT pnT C_23 := ctrS_ok okC_68 okc_68
theorem mC_23 : CtrMono C_23 := ctrS_mono mC_68 mc_68
theorem mD_23 : DrMono D_23 := drawA_mono mC_23
noncomputable def B_23 : Code := Tryd.f23.body.getD .skip
theorem mc_23 (args : List (AV tau)) (m : Mem tau) (k k' : AV tau → Mem tau → Option Unit) (hk : ∀ av m, k av m = some () → k' av m = some ()) (h : c_23 args m k = some ()) : c_23 args m k' = some () := by
 unfold c_23 at h ⊢
 split at h
 · repeat' first | exact callX_mono (fun _ h => hk _ _ h) h | refine bO_mono (fun _ h => ?_) h
 · cases h
theorem w_23 (l0 : List Int) (k : AV tau → Mem tau → Option Unit) : fnA E_23 C_23 D_23 Tryd.f23 B_23 [.sl 5 l0] ⟨[], []⟩ k = (callX (fun n => spec_l15Open.f l0) fun t0 => callX (fun n => spec_l1Boxes.f n t0.1 t0.2) fun t1 => callX (fun n => spec_BoxText.f n t1.1) fun t2 => callX (fun n => spec_l15Rd_pick.f n t0.1 t1.2 (2 : Int)) fun t3 => brA (decide (t3.1 = (0 : Int))) (k (.str t2) ⟨[], []⟩) (callX (fun n => spec_l15Rd_pick.f n t0.1 t3.2 ((t2.size : Nat) : Int)) fun t4 => brA (decide ((0 : Int) ≤ t4.1)) (brA (decide (t4.1 ≤ ((t2.size : Nat) : Int))) (callX (fun n => spec_l15Rd_of.f n t0.1 t4.2 ([(bs []), (bs [48]), (bs [47]), (bs [32]), (bs [45]), (bs [120])] : List ByteArray)) fun t5 => brA (decide (((ByteArray.extract t2 0 (Int.toNat t4.1)).size + t5.1.size) ≤ 9223372036854775807)) (callX (fun n => spec_l15Rd_pick.f n t0.1 t5.2 (2 : Int)) fun t6 => brA (decide ((0 : Int) ≤ (wrap64 (t4.1 + t6.1)))) (brA (decide ((wrap64 (t4.1 + t6.1)) ≤ ((t2.size : Nat) : Int))) (brA (decide ((((ByteArray.extract t2 0 (Int.toNat t4.1)) ++ t5.1).size + (ByteArray.extract t2 (Int.toNat (wrap64 (t4.1 + t6.1))) t2.size).size) ≤ 9223372036854775807)) (k (.str (((ByteArray.extract t2 0 (Int.toNat t4.1)) ++ t5.1) ++ (ByteArray.extract t2 (Int.toNat (wrap64 (t4.1 + t6.1))) t2.size))) ⟨[], []⟩) (none)) (none)) (none)) (none)) (none)) (none)) : Option Unit) := by
 simp only [← wrapA_i64]
 kernel_rfl
theorem okc_23 (args : List (AV tau)) (m : Mem tau) (κ : AV tau → Mem tau → Option Unit) (hh : c_23 args m κ = some ()) : ∃ av m1, κ av m1 = some () ∧ ToldA Tryd.prog TT (pnT 23) 23 args m av m1 := by
 obtain ⟨bx_, rw_⟩ := m
 unfold c_23 at hh
 simp only at hh
 split at hh
 case h_2 => cases hh
 rename_i b0
 obtain ⟨l0, hx0, hh0⟩ := bO_some hh
 have ex0 := asSl_some hx0
 subst ex0
 obtain ⟨N, t, h, hκ⟩ := callX_some hh0
 refine ⟨_, _, hκ, told_of_run pq okC_23 (fun _ _ _ => drawA_ok pq okC_23 hmix) (E := E_23) (fn := Tryd.f23) (body := B_23) (by kernel_rfl) (by kernel_rfl) (by kernel_rfl) (by rfl) (by exact Nat.le_of_ble_eq_true rfl) (fun k hk => ?_)⟩
 refine (w_23 l0 k).trans ?_
 replace h : spec_DrawBoxRead.f N l0 = some t := h
 unfold spec_DrawBoxRead.f at h
 refine call_h 0 h (fun t0 e15 h => ?_)
 refine call_h N h (fun t1 e16 h => ?_)
 refine call_h N h (fun t2 e17 h => ?_)
 refine call_h N h (fun t3 e18 h => ?_)
 refine br_ite h rfl (fun c19 h => ?_) (fun c19 h => ?_)
 ·cases h; exact hk
 refine call_h N h (fun t4 e20 h => ?_)
 refine br_g h rfl (fun c21 h => ?_)
 refine br_g h rfl (fun c22 h => ?_)
 refine call_h N h (fun t5 e23 h => ?_)
 refine br_g h rfl (fun c24 h => ?_)
 refine call_h N h (fun t6 e25 h => ?_)
 refine br_g h rfl (fun c26 h => ?_)
 refine br_g h rfl (fun c27 h => ?_)
 refine br_g h rfl (fun c28 h => ?_)
 cases h; exact hk
noncomputable def C_50 : Ctr tau Unit := ctrS 23 c_23 C_23
noncomputable def D_50 : Drw tau := drawA E_50 C_50
theorem okC_50 : CtrOk Tryd.prog TT pnT C_50 := ctrS_ok okC_23 okc_23
theorem mC_50 : CtrMono C_50 := ctrS_mono mC_23 mc_23
theorem mD_50 : DrMono D_50 := drawA_mono mC_50
noncomputable def B_50 : Code := Tryd.f50.body.getD .skip
theorem mc_50 (args : List (AV tau)) (m : Mem tau) (k k' : AV tau → Mem tau → Option Unit) (hk : ∀ av m, k av m = some () → k' av m = some ()) (h : c_50 args m k = some ()) : c_50 args m k' = some () := by
 unfold c_50 at h ⊢
 split at h
 · repeat' first | exact callX_mono (fun _ h => hk _ _ h) h | refine bO_mono (fun _ h => ?_) h
 · cases h
noncomputable def K_50_0 (k : AV tau → Mem tau → Option Unit) : Kon tau := (kBlock 0 (kS E_50 C_50 D_50 (codeP B_50 [1, 1, 1, 1]) (kEnd E_50 Tryd.f50 k)))
def st_50_0 (x0 : ByteArray) (x1 : Int) (x2 : Int) (x3 : Int) (x4 : (List ByteArray)) : St tau := ⟨tmL 36 0 [(0, .str x0), (1, .int .u8 x1), (5, .own 0 0), (6, .int .i64 x2), (7, .int .i64 x3)], ⟨[], [some ⟨9, x4, 0⟩]⟩⟩
noncomputable def LP_50_0 (k : AV tau → Mem tau → Option Unit) (x0 : ByteArray) (x1 : Int) (x2 : Int) (x3 : Int) (x4 : (List ByteArray)) : Option Unit := loopA E_50 (codeA E_50 C_50 D_50 (codeP B_50 [1, 1, 1, 0, 1, 0, 0])) (codeP B_50 [1, 1, 1, 0, 1, 0, 0]) (K_50_0 k) (st_50_0 x0 x1 x2 x3 x4)
theorem w_50_0 (k : AV tau → Mem tau → Option Unit) (x0 : ByteArray) (x1 : Int) (x2 : Int) (x3 : Int) (x4 : (List ByteArray)) : codeA E_50 C_50 D_50 (codeP B_50 [1, 1, 1, 0, 1, 0, 0]) (kL E_50 C_50 D_50 (codeP B_50 [1, 1, 1, 0, 1, 0, 0]) (K_50_0 k)) (st_50_0 x0 x1 x2 x3 x4) = (brA (decide (x3 ≤ ((x0.size : Nat) : Int))) (brA (decide (x3 = ((x0.size : Nat) : Int))) (brA (decide ((0 : Int) ≤ x3)) (brA (decide (x3 ≤ ((x0.size : Nat) : Int))) (brA (decide ((0 : Int) ≤ x2)) (brA (decide (x2 ≤ x3)) (brA (decide ((x4.length + 1) ≤ 8796093022208)) (LP_50_0 k x0 x1 (wrap64 (x3 + (1 : Int))) (wrap64 (x3 + (1 : Int))) (x4 ++ ([(ByteArray.extract x0 (Int.toNat x2) (Int.toNat x3))] : List ByteArray))) (none)) (none)) (none)) (none)) (none)) (brA (decide ((0 : Int) ≤ x3)) (brA (decide (x3 < ((x0.size : Nat) : Int))) (brA (decide ((btA x0 x3) = x1)) (brA (decide ((0 : Int) ≤ x3)) (brA (decide (x3 ≤ ((x0.size : Nat) : Int))) (brA (decide ((0 : Int) ≤ x2)) (brA (decide (x2 ≤ x3)) (brA (decide ((x4.length + 1) ≤ 8796093022208)) (LP_50_0 k x0 x1 (wrap64 (x3 + (1 : Int))) (wrap64 (x3 + (1 : Int))) (x4 ++ ([(ByteArray.extract x0 (Int.toNat x2) (Int.toNat x3))] : List ByteArray))) (none)) (none)) (none)) (none)) (none)) (LP_50_0 k x0 x1 x2 (wrap64 (x3 + (1 : Int))) x4)) (none)) (none))) (k (.own 0 0) ⟨[], [some ⟨9, x4, 0⟩]⟩) : Option Unit) := by
 simp only [← wrapA_i64]
 kernel_rfl
theorem w_50 (a0 : ByteArray) (a1 : Int) (k : AV tau → Mem tau → Option Unit) : fnA E_50 C_50 D_50 Tryd.f50 B_50 [.str a0, .int .u8 a1] ⟨[], []⟩ k = (LP_50_0 k a0 a1 (0 : Int) (0 : Int) ([] : List ByteArray) : Option Unit) := by kernel_rfl
def S_50_0 (N : Nat) : Prop := ∀ (k : AV tau → Mem tau → Option Unit) (x0 : ByteArray) (x1 : Int) (x2 : Int) (x3 : Int) (x4 : (List ByteArray)) (r : (List ByteArray)), spec_l15Cut.l0 N (x0) (x1) (x2) (x3) (x4) = some r → k (.own 0 0) ⟨[], [some ⟨9, r, 0⟩]⟩ = some () → LP_50_0 k x0 x1 x2 x3 x4 = some ()
theorem L_50 (N : Nat) : S_50_0 N := by
 induction N using Nat.strongRecOn with | _ N0 ih =>
 skip
 intro k x0 x1 x2 x3 x4 r h hk
 rcases N0 with _ | N
 · cases h
 first | rw [spec_l15Cut.l0] at h | simp only [spec_l15Cut.l0] at h | (unfold spec_l15Cut.l0 at h; dsimp only at h)
 refine loop_fold mC_50 mD_50 ?_
 refine (w_50_0 k x0 x1 x2 x3 x4).trans ?_
 refine br_eti h rfl (fun c31 h => ?_) (fun c31 h => ?_)
 ·cases h; exact hk
 refine br_ite h rfl (fun c32 h => ?_) (fun c32 h => ?_)
 ·refine br_g h rfl (fun c33 h => ?_)
  refine br_g h rfl (fun c34 h => ?_)
  refine br_g h rfl (fun c35 h => ?_)
  refine br_g h rfl (fun c36 h => ?_)
  refine br_g h rfl (fun c37 h => ?_)
  exact (ih N (by omega)) _ _ _ _ _ _ _ h hk
 refine br_g h rfl (fun c38 h => ?_)
 refine br_g h rfl (fun c39 h => ?_)
 refine br_eti h rfl (fun c40 h => ?_) (fun c40 h => ?_)
 ·exact (ih N (by omega)) _ _ _ _ _ _ _ h hk
 refine br_g h rfl (fun c41 h => ?_)
 refine br_g h rfl (fun c42 h => ?_)
 refine br_g h rfl (fun c43 h => ?_)
 refine br_g h rfl (fun c44 h => ?_)
 refine br_g h rfl (fun c45 h => ?_)
 exact (ih N (by omega)) _ _ _ _ _ _ _ h hk
theorem okc_50 (args : List (AV tau)) (m : Mem tau) (κ : AV tau → Mem tau → Option Unit) (hh : c_50 args m κ = some ()) : ∃ av m1, κ av m1 = some () ∧ ToldA Tryd.prog TT (pnT 50) 50 args m av m1 := by
 obtain ⟨bx_, rw_⟩ := m
 unfold c_50 at hh
 simp only at hh
 split at hh
 case h_2 => cases hh
 rename_i b0 b1
 obtain ⟨a0, hx0, hh0⟩ := bO_some hh
 obtain ⟨a1, hx1, hh1⟩ := bO_some hh0
 have ex0 := asS_some hx0
 have ex1 := asI_some hx1
 subst ex0 ex1
 obtain ⟨N, t, h, hκ⟩ := callX_some hh1
 refine ⟨_, _, hκ, told_of_run pq okC_50 (fun _ _ _ => drawA_ok pq okC_50 hmix) (E := E_50) (fn := Tryd.f50) (body := B_50) (by kernel_rfl) (by kernel_rfl) (by kernel_rfl) (by rfl) (by exact Nat.le_of_ble_eq_true rfl) (fun k hk => ?_)⟩
 refine (w_50 a0 a1 k).trans ?_
 replace h : spec_l15Cut.f N a0 a1 = some t := h
 unfold spec_l15Cut.f at h
 exact (L_50 N) _ _ _ _ _ _ _ h hk
noncomputable def C_69 : Ctr tau Unit := ctrS 50 c_50 C_50
noncomputable def D_69 : Drw tau := drawA E_69 C_69
theorem okC_69 : CtrOk Tryd.prog TT pnT C_69 := ctrS_ok okC_50 okc_50
theorem mC_69 : CtrMono C_69 := ctrS_mono mC_50 mc_50
theorem mD_69 : DrMono D_69 := drawA_mono mC_69
noncomputable def B_69 : Code := Tryd.f69.body.getD .skip
theorem mc_69 (args : List (AV tau)) (m : Mem tau) (k k' : AV tau → Mem tau → Option Unit) (hk : ∀ av m, k av m = some () → k' av m = some ()) (h : c_69 args m k = some ()) : c_69 args m k' = some () := by
 unfold c_69 at h ⊢
 split at h
 · repeat' first | exact callX_mono (fun _ h => hk _ _ h) h | refine bO_mono (fun _ h => ?_) h
 · cases h
noncomputable def K_69_0 (k : AV tau → Mem tau → Option Unit) : Kon tau := (kBlock 0 (kS E_69 C_69 D_69 (codeP B_69 [1, 1]) (kEnd E_69 Tryd.f69 k)))
def st_69_0 (x0 : ByteArray) (x1 : Int) (x2 : Int) : St tau := ⟨tmL 18 0 [(0, .str x0), (1, .int .u8 x1), (5, .int .i64 x2)], ⟨[], []⟩⟩
noncomputable def LP_69_0 (k : AV tau → Mem tau → Option Unit) (x0 : ByteArray) (x1 : Int) (x2 : Int) : Option Unit := loopA E_69 (codeA E_69 C_69 D_69 (codeP B_69 [1, 0, 1, 0, 0])) (codeP B_69 [1, 0, 1, 0, 0]) (K_69_0 k) (st_69_0 x0 x1 x2)
theorem w_69_0 (k : AV tau → Mem tau → Option Unit) (x0 : ByteArray) (x1 : Int) (x2 : Int) : codeA E_69 C_69 D_69 (codeP B_69 [1, 0, 1, 0, 0]) (kL E_69 C_69 D_69 (codeP B_69 [1, 0, 1, 0, 0]) (K_69_0 k)) (st_69_0 x0 x1 x2) = (brA (decide (x2 < ((x0.size : Nat) : Int))) (brA (decide ((0 : Int) ≤ x2)) (brA (decide (x2 < ((x0.size : Nat) : Int))) (brA (decide ((btA x0 x2) = x1)) (k (.int .i64 x2) ⟨[], []⟩) (LP_69_0 k x0 x1 (wrap64 (x2 + (1 : Int))))) (none)) (none)) (k (.int .i64 (-(1 : Int))) ⟨[], []⟩) : Option Unit) := by
 simp only [← wrapA_i64]
 kernel_rfl
theorem w_69 (a0 : ByteArray) (a1 : Int) (k : AV tau → Mem tau → Option Unit) : fnA E_69 C_69 D_69 Tryd.f69 B_69 [.str a0, .int .u8 a1] ⟨[], []⟩ k = (LP_69_0 k a0 a1 (0 : Int) : Option Unit) := by kernel_rfl
def S_69_0 (N : Nat) : Prop := ∀ (k : AV tau → Mem tau → Option Unit) (x0 : ByteArray) (x1 : Int) (x2 : Int) (r : Int), spec_l15Find.l0 N (x0) (x1) (x2) = some r → k (.int .i64 (r)) ⟨[], []⟩ = some () → LP_69_0 k x0 x1 x2 = some ()
theorem L_69 (N : Nat) : S_69_0 N := by
 induction N using Nat.strongRecOn with | _ N0 ih =>
 skip
 intro k x0 x1 x2 r h hk
 rcases N0 with _ | N
 · cases h
 first | rw [spec_l15Find.l0] at h | simp only [spec_l15Find.l0] at h | (unfold spec_l15Find.l0 at h; dsimp only at h)
 refine loop_fold mC_69 mD_69 ?_
 refine (w_69_0 k x0 x1 x2).trans ?_
 refine br_eti h rfl (fun c9 h => ?_) (fun c9 h => ?_)
 ·cases h; exact hk
 refine br_g h rfl (fun c10 h => ?_)
 refine br_g h rfl (fun c11 h => ?_)
 refine br_ite h rfl (fun c12 h => ?_) (fun c12 h => ?_)
 ·cases h; exact hk
 exact (ih N (by omega)) _ _ _ _ _ h hk
theorem okc_69 (args : List (AV tau)) (m : Mem tau) (κ : AV tau → Mem tau → Option Unit) (hh : c_69 args m κ = some ()) : ∃ av m1, κ av m1 = some () ∧ ToldA Tryd.prog TT (pnT 69) 69 args m av m1 := by
 obtain ⟨bx_, rw_⟩ := m
 unfold c_69 at hh
 simp only at hh
 split at hh
 case h_2 => cases hh
 rename_i b0 b1
 obtain ⟨a0, hx0, hh0⟩ := bO_some hh
 obtain ⟨a1, hx1, hh1⟩ := bO_some hh0
 have ex0 := asS_some hx0
 have ex1 := asI_some hx1
 subst ex0 ex1
 obtain ⟨N, t, h, hκ⟩ := callX_some hh1
 refine ⟨_, _, hκ, told_of_run pq okC_69 (fun _ _ _ => drawA_ok pq okC_69 hmix) (E := E_69) (fn := Tryd.f69) (body := B_69) (by kernel_rfl) (by kernel_rfl) (by kernel_rfl) (by rfl) (by exact Nat.le_of_ble_eq_true rfl) (fun k hk => ?_)⟩
 refine (w_69 a0 a1 k).trans ?_
 replace h : spec_l15Find.f N a0 a1 = some t := h
 unfold spec_l15Find.f at h
 exact (L_69 N) _ _ _ _ _ h hk
noncomputable def C_70 : Ctr tau Unit := ctrS 69 c_69 C_69
noncomputable def D_70 : Drw tau := drawA E_70 C_70
theorem okC_70 : CtrOk Tryd.prog TT pnT C_70 := ctrS_ok okC_69 okc_69
theorem mC_70 : CtrMono C_70 := ctrS_mono mC_69 mc_69
theorem mD_70 : DrMono D_70 := drawA_mono mC_70
noncomputable def B_70 : Code := Tryd.f70.body.getD .skip
theorem mc_70 (args : List (AV tau)) (m : Mem tau) (k k' : AV tau → Mem tau → Option Unit) (hk : ∀ av m, k av m = some () → k' av m = some ()) (h : c_70 args m k = some ()) : c_70 args m k' = some () := by
 unfold c_70 at h ⊢
 split at h
 · repeat' first | exact callX_mono (fun _ h => hk _ _ h) h | refine bO_mono (fun _ h => ?_) h
 · cases h
noncomputable def K_70_0 (k : AV tau → Mem tau → Option Unit) : Kon tau := (kBlock 0 (kS E_70 C_70 D_70 (codeP B_70 [1, 1, 1, 1, 1, 1]) (kEnd E_70 Tryd.f70 k)))
def st_70_0 (x0 : ByteArray) (x1 : Bool) (x2 : Int) (x3 : Int) : St tau := ⟨tmL 67 0 [(0, .str x0), (4, .bool x1), (5, .int .i64 x2), (6, .int .i64 x3)], ⟨[], []⟩⟩
noncomputable def LP_70_0 (k : AV tau → Mem tau → Option Unit) (x0 : ByteArray) (x1 : Bool) (x2 : Int) (x3 : Int) : Option Unit := loopA E_70 (codeA E_70 C_70 D_70 (codeP B_70 [1, 1, 1, 1, 1, 0, 1, 0, 0])) (codeP B_70 [1, 1, 1, 1, 1, 0, 1, 0, 0]) (K_70_0 k) (st_70_0 x0 x1 x2 x3)
theorem w_70_0 (k : AV tau → Mem tau → Option Unit) (x0 : ByteArray) (x1 : Bool) (x2 : Int) (x3 : Int) : codeA E_70 C_70 D_70 (codeP B_70 [1, 1, 1, 1, 1, 0, 1, 0, 0]) (kL E_70 C_70 D_70 (codeP B_70 [1, 1, 1, 1, 1, 0, 1, 0, 0]) (K_70_0 k)) (st_70_0 x0 x1 x2 x3) = (brA (decide (x3 < ((x0.size : Nat) : Int))) (brA (decide ((0 : Int) ≤ x3)) (brA (decide (x3 < ((x0.size : Nat) : Int))) (brA (decide ((btA x0 x3) < (48 : Int))) (k (.tup [.int .i64 (0 : Int), .bool false]) ⟨[], []⟩) (brA (decide ((0 : Int) ≤ x3)) (brA (decide (x3 < ((x0.size : Nat) : Int))) (brA (decide ((btA x0 x3) > (57 : Int))) (k (.tup [.int .i64 (0 : Int), .bool false]) ⟨[], []⟩) (brA (decide ((0 : Int) ≤ x3)) (brA (decide (x3 < ((x0.size : Nat) : Int))) (LP_70_0 k x0 x1 (wrap64 ((wrap64 (x2 * (10 : Int))) + (wrap64 (IntKind.wrap .u8 ((btA x0 x3) - (48 : Int)))))) (wrap64 (x3 + (1 : Int)))) (none)) (none))) (none)) (none))) (none)) (none)) (brA x1 (k (.tup [.int .i64 (wrap64 ((0 : Int) - x2)), .bool true]) ⟨[], []⟩) (k (.tup [.int .i64 x2, .bool true]) ⟨[], []⟩)) : Option Unit) := by
 simp only [← wrapA_i64]
 kernel_rfl
theorem w_70 (a0 : ByteArray) (k : AV tau → Mem tau → Option Unit) : fnA E_70 C_70 D_70 Tryd.f70 B_70 [.str a0] ⟨[], []⟩ k = (brA (decide (((a0.size : Nat) : Int) > (0 : Int))) (brA (decide ((0 : Int) < ((a0.size : Nat) : Int))) (brA (decide ((btA a0 (0 : Int)) = (45 : Int))) (brA (decide ((1 : Int) ≤ ((a0.size : Nat) : Int))) (brA (decide ((((ByteArray.extract a0 1 a0.size).size : Nat) : Int) = (0 : Int))) (k (.tup [.int .i64 (0 : Int), .bool false]) ⟨[], []⟩) (brA (decide ((((ByteArray.extract a0 1 a0.size).size : Nat) : Int) > (17 : Int))) (k (.tup [.int .i64 (0 : Int), .bool false]) ⟨[], []⟩) (brA (decide ((0 : Int) < (((ByteArray.extract a0 1 a0.size).size : Nat) : Int))) (brA (decide ((btA (ByteArray.extract a0 1 a0.size) (0 : Int)) = (48 : Int))) (brA (decide ((((ByteArray.extract a0 1 a0.size).size : Nat) : Int) > (1 : Int))) (k (.tup [.int .i64 (0 : Int), .bool false]) ⟨[], []⟩) (brA (decide ((btA a0 (0 : Int)) = (45 : Int))) (k (.tup [.int .i64 (0 : Int), .bool false]) ⟨[], []⟩) (LP_70_0 k (ByteArray.extract a0 1 a0.size) (decide ((btA a0 (0 : Int)) = (45 : Int))) (0 : Int) (0 : Int)))) (LP_70_0 k (ByteArray.extract a0 1 a0.size) (decide ((btA a0 (0 : Int)) = (45 : Int))) (0 : Int) (0 : Int))) (none)))) (none)) (brA (decide (((a0.size : Nat) : Int) = (0 : Int))) (k (.tup [.int .i64 (0 : Int), .bool false]) ⟨[], []⟩) (brA (decide (((a0.size : Nat) : Int) > (17 : Int))) (k (.tup [.int .i64 (0 : Int), .bool false]) ⟨[], []⟩) (brA (decide ((0 : Int) < ((a0.size : Nat) : Int))) (brA (decide ((btA a0 (0 : Int)) = (48 : Int))) (brA (decide (((a0.size : Nat) : Int) > (1 : Int))) (k (.tup [.int .i64 (0 : Int), .bool false]) ⟨[], []⟩) (brA (decide ((btA a0 (0 : Int)) = (45 : Int))) (k (.tup [.int .i64 (0 : Int), .bool false]) ⟨[], []⟩) (LP_70_0 k a0 (decide ((btA a0 (0 : Int)) = (45 : Int))) (0 : Int) (0 : Int)))) (LP_70_0 k a0 (decide ((btA a0 (0 : Int)) = (45 : Int))) (0 : Int) (0 : Int))) (none))))) (none)) (brA (decide (((a0.size : Nat) : Int) = (0 : Int))) (k (.tup [.int .i64 (0 : Int), .bool false]) ⟨[], []⟩) (brA (decide (((a0.size : Nat) : Int) > (17 : Int))) (k (.tup [.int .i64 (0 : Int), .bool false]) ⟨[], []⟩) (brA (decide ((0 : Int) < ((a0.size : Nat) : Int))) (brA (decide ((btA a0 (0 : Int)) = (48 : Int))) (brA (decide (((a0.size : Nat) : Int) > (1 : Int))) (k (.tup [.int .i64 (0 : Int), .bool false]) ⟨[], []⟩) (LP_70_0 k a0 false (0 : Int) (0 : Int))) (LP_70_0 k a0 false (0 : Int) (0 : Int))) (none)))) : Option Unit) := by kernel_rfl
def S_70_0 (N : Nat) : Prop := ∀ (k : AV tau → Mem tau → Option Unit) (x0 : ByteArray) (x1 : Bool) (x2 : Int) (x3 : Int) (r : Int × Bool), spec_l15Num.l0 N (x0) (x1) (x2) (x3) = some r → k (.tup [.int .i64 (r.1), .bool (r.2)]) ⟨[], []⟩ = some () → LP_70_0 k x0 x1 x2 x3 = some ()
theorem L_70 (N : Nat) : S_70_0 N := by
 induction N using Nat.strongRecOn with | _ N0 ih =>
 skip
 intro k x0 x1 x2 x3 r h hk
 rcases N0 with _ | N
 · cases h
 first | rw [spec_l15Num.l0] at h | simp only [spec_l15Num.l0] at h | (unfold spec_l15Num.l0 at h; dsimp only at h)
 refine loop_fold mC_70 mD_70 ?_
 refine (w_70_0 k x0 x1 x2 x3).trans ?_
 refine br_eti h rfl (fun c63 h => ?_) (fun c63 h => ?_)
 ·refine br_eti h dect (fun c64 h => ?_) (fun c64 h => ?_)
  ·cases h; exact hk
  cases h; exact hk
 refine br_g h rfl (fun c65 h => ?_)
 refine br_g h rfl (fun c66 h => ?_)
 refine br_ite h rfl (fun c67 h => ?_) (fun c67 h => ?_)
 ·cases h; exact hk
 refine br_g h rfl (fun c68 h => ?_)
 refine br_g h rfl (fun c69 h => ?_)
 refine br_ite h rfl (fun c70 h => ?_) (fun c70 h => ?_)
 ·cases h; exact hk
 refine br_g h rfl (fun c71 h => ?_)
 refine br_g h rfl (fun c72 h => ?_)
 exact (ih N (by omega)) _ _ _ _ _ _ h hk
theorem okc_70 (args : List (AV tau)) (m : Mem tau) (κ : AV tau → Mem tau → Option Unit) (hh : c_70 args m κ = some ()) : ∃ av m1, κ av m1 = some () ∧ ToldA Tryd.prog TT (pnT 70) 70 args m av m1 := by
 obtain ⟨bx_, rw_⟩ := m
 unfold c_70 at hh
 simp only at hh
 split at hh
 case h_2 => cases hh
 rename_i b0
 obtain ⟨a0, hx0, hh0⟩ := bO_some hh
 have ex0 := asS_some hx0
 subst ex0
 obtain ⟨N, t, h, hκ⟩ := callX_some hh0
 refine ⟨_, _, hκ, told_of_run pq okC_70 (fun _ _ _ => drawA_ok pq okC_70 hmix) (E := E_70) (fn := Tryd.f70) (body := B_70) (by kernel_rfl) (by kernel_rfl) (by kernel_rfl) (by rfl) (by exact Nat.le_of_ble_eq_true rfl) (fun k hk => ?_)⟩
 refine (w_70 a0 k).trans ?_
 replace h : spec_l15Num.f N a0 = some t := h
 unfold spec_l15Num.f at h
 refine br_eti h rfl (fun c73 h => ?_) (fun c73 h => ?_)
 ·refine br_ite h rfl (fun c74 h => ?_) (fun c74 h => ?_)
  ·cases h; exact hk
  refine br_ite h rfl (fun c75 h => ?_) (fun c75 h => ?_)
  ·cases h; exact hk
  refine br_g h rfl (fun c76 h => ?_)
  refine br_eti h rfl (fun c77 h => ?_) (fun c77 h => ?_)
  ·exact (L_70 N) _ _ _ _ _ _ h hk
  refine br_eti h rfl (fun c78 h => ?_) (fun c78 h => ?_)
  ·exact (L_70 N) _ _ _ _ _ _ h hk
  cases h; exact hk
 refine br_g h rfl (fun c79 h => ?_)
 refine br_eti h rfl (fun c80 h => ?_) (fun c80 h => ?_)
 ·refine br_ite h rfl (fun c81 h => ?_) (fun c81 h => ?_)
  ·cases h; exact hk
  refine br_ite h rfl (fun c82 h => ?_) (fun c82 h => ?_)
  ·cases h; exact hk
  refine br_g h rfl (fun c83 h => ?_)
  refine br_eti h rfl (fun c84 h => ?_) (fun c84 h => ?_)
  ·exact (L_70 N) _ _ _ _ _ _ h hk
  refine br_ite h rfl (fun c85 h => ?_) (fun c85 h => ?_)
  ·cases h; exact hk
  refine br_ite h rfl (fun c86 h => ?_) (fun c86 h => ?_)
  ·cases h; exact hk
  exact (L_70 N) _ _ _ _ _ _ h hk
 refine br_g h rfl (fun c87 h => ?_)
 refine br_ite h rfl (fun c88 h => ?_) (fun c88 h => ?_)
 ·cases h; exact hk
 refine br_ite h rfl (fun c89 h => ?_) (fun c89 h => ?_)
 ·cases h; exact hk
 refine br_g h rfl (fun c90 h => ?_)
 refine br_eti h rfl (fun c91 h => ?_) (fun c91 h => ?_)
 ·exact (L_70 N) _ _ _ _ _ _ h hk
 refine br_ite h rfl (fun c92 h => ?_) (fun c92 h => ?_)
 ·cases h; exact hk
 refine br_ite h rfl (fun c93 h => ?_) (fun c93 h => ?_)
 ·cases h; exact hk
 exact (L_70 N) _ _ _ _ _ _ h hk
noncomputable def C_24 : Ctr tau Unit := ctrS 70 c_70 C_70
noncomputable def D_24 : Drw tau := drawA E_24 C_24
theorem okC_24 : CtrOk Tryd.prog TT pnT C_24 := ctrS_ok okC_70 okc_70
theorem mC_24 : CtrMono C_24 := ctrS_mono mC_70 mc_70
theorem mD_24 : DrMono D_24 := drawA_mono mC_24
noncomputable def B_24 : Code := Tryd.f24.body.getD .skip
theorem mc_24 (args : List (AV tau)) (m : Mem tau) (k k' : AV tau → Mem tau → Option Unit) (hk : ∀ av m, k av m = some () → k' av m = some ()) (h : c_24 args m k = some ()) : c_24 args m k' = some () := by
 unfold c_24 at h ⊢
 split at h
 · repeat' first | exact callX_mono (fun _ h => hk _ _ h) h | refine bO_mono (fun _ h => ?_) h
 · cases h
noncomputable def K_24_0 (k : AV tau → Mem tau → Option Unit) : Kon tau := (kBlock 0 (kS E_24 C_24 D_24 (codeP B_24 [1, 1, 1, 1, 1]) (kEnd E_24 Tryd.f24 k)))
def st_24_0 (x0 : Int) (x1 : (List ByteArray)) (x2 : (List S70)) : St tau := ⟨tmL 68 0 [(4, .own 0 0), (5, .own 1 0), (6, .int .i64 x0)], ⟨[], [some ⟨9, x1, 0⟩, some ⟨70, x2, 0⟩]⟩⟩
noncomputable def LP_24_0 (k : AV tau → Mem tau → Option Unit) (x0 : Int) (x1 : (List ByteArray)) (x2 : (List S70)) : Option Unit := loopA E_24 (codeA E_24 C_24 D_24 (codeP B_24 [1, 1, 1, 1, 0, 1, 0, 0])) (codeP B_24 [1, 1, 1, 1, 0, 1, 0, 0]) (K_24_0 k) (st_24_0 x0 x1 x2)
theorem w_24_0 (k : AV tau → Mem tau → Option Unit) (x0 : Int) (x1 : (List ByteArray)) (x2 : (List S70)) : codeA E_24 C_24 D_24 (codeP B_24 [1, 1, 1, 1, 0, 1, 0, 0]) (kL E_24 C_24 D_24 (codeP B_24 [1, 1, 1, 1, 0, 1, 0, 0]) (K_24_0 k)) (st_24_0 x0 x1 x2) = (brA (decide (x0 < ((x1.length : Nat) : Int))) (brA (decide ((0 : Int) ≤ x0)) (brA (decide (x0 < ((x1.length : Nat) : Int))) (callX (fun n => spec_l15Find.f n (rdOf (default : ByteArray) x1 x0) (47 : Int)) fun t1 => brA (decide (t1 < (0 : Int))) (k (.tup [.own 0 0, .bool false]) ⟨[], [some ⟨70, ([] : List S70), 0⟩]⟩) (brA (decide ((0 : Int) ≤ x0)) (brA (decide (x0 < ((x1.length : Nat) : Int))) (brA (decide ((0 : Int) ≤ t1)) (brA (decide (t1 ≤ (((rdOf (default : ByteArray) x1 x0).size : Nat) : Int))) (callX (fun n => spec_l15Num.f n (ByteArray.extract (rdOf (default : ByteArray) x1 x0) 0 (Int.toNat t1))) fun t2 => brA (decide ((0 : Int) ≤ x0)) (brA (decide (x0 < ((x1.length : Nat) : Int))) (brA (decide ((0 : Int) ≤ (wrap64 (t1 + (1 : Int))))) (brA (decide ((wrap64 (t1 + (1 : Int))) ≤ (((rdOf (default : ByteArray) x1 x0).size : Nat) : Int))) (callX (fun n => spec_l15Num.f n (ByteArray.extract (rdOf (default : ByteArray) x1 x0) (Int.toNat (wrap64 (t1 + (1 : Int)))) ((rdOf (default : ByteArray) x1 x0).size))) fun t3 => brA (!t2.2) (k (.tup [.own 0 0, .bool false]) ⟨[], [some ⟨70, ([] : List S70), 0⟩]⟩) (brA (!t3.2) (k (.tup [.own 0 0, .bool false]) ⟨[], [some ⟨70, ([] : List S70), 0⟩]⟩) (brA (decide ((x2.length + 1) ≤ 8796093022208)) (LP_24_0 k (wrap64 (x0 + (1 : Int))) x1 (x2 ++ ([(⟨t3.1, t2.1⟩ : S70)] : List S70))) (none)))) (none)) (none)) (none)) (none)) (none)) (none)) (none)) (none))) (none)) (none)) (callX (fun n => spec_BoxOk.f n x2) fun t4 => brA (!t4) (k (.tup [.own 0 0, .bool false]) ⟨[], [some ⟨70, ([] : List S70), 0⟩]⟩) (k (.tup [.own 0 0, .bool true]) ⟨[], [some ⟨70, x2, 0⟩]⟩)) : Option Unit) := by
 simp only [← wrapA_i64]
 kernel_rfl
theorem w_24 (a0 : ByteArray) (k : AV tau → Mem tau → Option Unit) : fnA E_24 C_24 D_24 Tryd.f24 B_24 [.str a0] ⟨[], []⟩ k = (brA (decide (((a0.size : Nat) : Int) > (100 : Int))) (k (.tup [.own 0 0, .bool false]) ⟨[], [some ⟨70, ([] : List S70), 0⟩]⟩) (callX (fun n => spec_l15Cut.f n a0 (32 : Int)) fun t0 => LP_24_0 k (0 : Int) t0 ([] : List S70)) : Option Unit) := by kernel_rfl
def S_24_0 (N : Nat) : Prop := ∀ (k : AV tau → Mem tau → Option Unit) (x0 : Int) (x1 : (List ByteArray)) (x2 : (List S70)) (r : (List S70) × Bool), spec_BoxRead.l0 N (x0) (x1) (x2) = some r → k (.tup [.own 0 0, .bool (r.2)]) ⟨[], [some ⟨70, r.1, 0⟩]⟩ = some () → LP_24_0 k x0 x1 x2 = some ()
theorem L_24 (N : Nat) : S_24_0 N := by
 induction N using Nat.strongRecOn with | _ N0 ih =>
 skip
 intro k x0 x1 x2 r h hk
 rcases N0 with _ | N
 · cases h
 first | rw [spec_BoxRead.l0] at h | simp only [spec_BoxRead.l0] at h | (unfold spec_BoxRead.l0 at h; dsimp only at h)
 refine loop_fold mC_24 mD_24 ?_
 refine (w_24_0 k x0 x1 x2).trans ?_
 refine br_eti h rfl (fun c45 h => ?_) (fun c45 h => ?_)
 ·refine call_h N h (fun t4 e46 h => ?_)
  refine br_itn h (congrArg not dect) (fun c47 h => ?_) (fun c47 h => ?_)
  ·cases h; exact hk
  cases h; exact hk
 refine br_g h rfl (fun c48 h => ?_)
 refine br_g h rfl (fun c49 h => ?_)
 refine call_h N h (fun t1 e50 h => ?_)
 refine br_ite h rfl (fun c51 h => ?_) (fun c51 h => ?_)
 ·cases h; exact hk
 refine br_g h rfl (fun c52 h => ?_)
 refine br_g h rfl (fun c53 h => ?_)
 refine br_g h rfl (fun c54 h => ?_)
 refine br_g h rfl (fun c55 h => ?_)
 refine call_h N h (fun t2 e56 h => ?_)
 refine br_g h rfl (fun c57 h => ?_)
 refine br_g h rfl (fun c58 h => ?_)
 refine br_g h rfl (fun c59 h => ?_)
 refine br_g h rfl (fun c60 h => ?_)
 refine call_h N h (fun t3 e61 h => ?_)
 refine br_etn h (congrArg not dect) (fun c62 h => ?_) (fun c62 h => ?_)
 ·cases h; exact hk
 refine br_etn h (congrArg not dect) (fun c63 h => ?_) (fun c63 h => ?_)
 ·cases h; exact hk
 refine br_g h rfl (fun c64 h => ?_)
 exact (ih N (by omega)) _ _ _ _ _ h hk
theorem okc_24 (args : List (AV tau)) (m : Mem tau) (κ : AV tau → Mem tau → Option Unit) (hh : c_24 args m κ = some ()) : ∃ av m1, κ av m1 = some () ∧ ToldA Tryd.prog TT (pnT 24) 24 args m av m1 := by
 obtain ⟨bx_, rw_⟩ := m
 unfold c_24 at hh
 simp only at hh
 split at hh
 case h_2 => cases hh
 rename_i b0
 obtain ⟨a0, hx0, hh0⟩ := bO_some hh
 have ex0 := asS_some hx0
 subst ex0
 obtain ⟨N, t, h, hκ⟩ := callX_some hh0
 refine ⟨_, _, hκ, told_of_run pq okC_24 (fun _ _ _ => drawA_ok pq okC_24 hmix) (E := E_24) (fn := Tryd.f24) (body := B_24) (by kernel_rfl) (by kernel_rfl) (by kernel_rfl) (by rfl) (by exact Nat.le_of_ble_eq_true rfl) (fun k hk => ?_)⟩
 refine (w_24 a0 k).trans ?_
 replace h : spec_BoxRead.f N a0 = some t := h
 unfold spec_BoxRead.f at h
 refine br_ite h rfl (fun c65 h => ?_) (fun c65 h => ?_)
 ·cases h; exact hk
 refine call_h N h (fun t0 e66 h => ?_)
 exact (L_24 N) _ _ _ _ _ h hk
noncomputable def C_4 : Ctr tau Unit := ctrS 24 c_24 C_24
noncomputable def D_4 : Drw tau := drawA E_4 C_4
theorem okC_4 : CtrOk Tryd.prog TT pnT C_4 := ctrS_ok okC_24 okc_24
theorem mC_4 : CtrMono C_4 := ctrS_mono mC_24 mc_24
theorem mD_4 : DrMono D_4 := drawA_mono mC_4
noncomputable def B_4 : Code := Tryd.f4.body.getD .skip
theorem mc_4 (args : List (AV tau)) (m : Mem tau) (k k' : AV tau → Mem tau → Option Unit) (hk : ∀ av m, k av m = some () → k' av m = some ()) (h : c_4 args m k = some ()) : c_4 args m k' = some () := by
 unfold c_4 at h ⊢
 split at h
 · repeat' first | exact callX_mono (fun _ h => hk _ _ h) h | refine bO_mono (fun _ h => ?_) h
 · cases h
theorem w_4 (l0 : List Int) (l1 : List Int) (k : AV tau → Mem tau → Option Unit) : fnA E_4 C_4 D_4 Tryd.f4 B_4 [.sl 5 l0, .sl 5 l1] ⟨[], []⟩ k = (brA (decide (((l0.length : Nat) : Int) > (1048576 : Int))) (k (.bool true) ⟨[], []⟩) (brA (decide (((l1.length : Nat) : Int) > (1048576 : Int))) (k (.bool true) ⟨[], []⟩) (callX (fun n => spec_DrawBoxText.f n l0) fun t0 => callX (fun n => impl_BoxText.f n t0) fun t1 => callX (fun n => impl_BoxRead.f n t1) fun t2 => callX (fun n => spec_BoxText.f n t0) fun t3 => brA (!(decide (t1 = t3))) (k (.bool false) ⟨[], []⟩) (callX (fun n => impl_BoxOk.f n t0) fun t4 => callX (fun n => spec_BoxOk.f n t0) fun t5 => brA (!(t4 == t5)) (k (.bool false) ⟨[], []⟩) (callX (fun n => spec_BoxOk.f n t0) fun t6 => brA (!(t2.2 == t6)) (k (.bool false) ⟨[], []⟩) (brA t2.2 (callX (fun n => impl_BoxSame.f n t2.1 t0) fun t7 => brA (!t7) (k (.bool false) ⟨[], []⟩) (callX (fun n => spec_DrawBoxRead.f n l1) fun t8 => callX (fun n => impl_BoxRead.f n t8) fun t9 => callX (fun n => spec_BoxRead.f n t8) fun t10 => brA (t9.2 == t10.2) (brA (!t9.2) (callX (fun n => impl_BoxOpen.f ) fun t11 => callX (fun n => impl_BoxOk.f n t11) fun t12 => k (.bool t12) ⟨[], []⟩) (callX (fun n => impl_BoxText.f n t9.1) fun t13 => brA (decide (t13 = t8)) (callX (fun n => impl_BoxOk.f n t9.1) fun t14 => brA t14 (callX (fun n => impl_BoxOpen.f ) fun t15 => callX (fun n => impl_BoxOk.f n t15) fun t16 => k (.bool t16) ⟨[], []⟩) (k (.bool false) ⟨[], []⟩)) (k (.bool false) ⟨[], []⟩))) (k (.bool false) ⟨[], []⟩))) (callX (fun n => spec_DrawBoxRead.f n l1) fun t17 => callX (fun n => impl_BoxRead.f n t17) fun t18 => callX (fun n => spec_BoxRead.f n t17) fun t19 => brA (t18.2 == t19.2) (brA (!t18.2) (callX (fun n => impl_BoxOpen.f ) fun t20 => callX (fun n => impl_BoxOk.f n t20) fun t21 => k (.bool t21) ⟨[], []⟩) (callX (fun n => impl_BoxText.f n t18.1) fun t22 => brA (decide (t22 = t17)) (callX (fun n => impl_BoxOk.f n t18.1) fun t23 => brA t23 (callX (fun n => impl_BoxOpen.f ) fun t24 => callX (fun n => impl_BoxOk.f n t24) fun t25 => k (.bool t25) ⟨[], []⟩) (k (.bool false) ⟨[], []⟩)) (k (.bool false) ⟨[], []⟩))) (k (.bool false) ⟨[], []⟩))))))) : Option Unit) := by kernel_rfl
theorem okc_4 (args : List (AV tau)) (m : Mem tau) (κ : AV tau → Mem tau → Option Unit) (hh : c_4 args m κ = some ()) : ∃ av m1, κ av m1 = some () ∧ ToldA Tryd.prog TT (pnT 4) 4 args m av m1 := by
 obtain ⟨bx_, rw_⟩ := m
 unfold c_4 at hh
 simp only at hh
 split at hh
 case h_2 => cases hh
 rename_i b0 b1
 obtain ⟨l0, hx0, hh0⟩ := bO_some hh
 obtain ⟨l1, hx1, hh1⟩ := bO_some hh0
 have ex0 := asSl_some hx0
 have ex1 := asSl_some hx1
 subst ex0 ex1
 obtain ⟨N, t, h, hκ⟩ := callX_some hh1
 refine ⟨_, _, hκ, told_of_run pq okC_4 (fun _ _ _ => drawA_ok pq okC_4 hmix) (E := E_4) (fn := Tryd.f4) (body := B_4) (by kernel_rfl) (by kernel_rfl) (by kernel_rfl) (by rfl) (by exact Nat.le_of_ble_eq_true rfl) (fun k hk => ?_)⟩
 refine (w_4 l0 l1 k).trans ?_
 replace h : laws_FnBox.f N l0 l1 = some t := h
 unfold laws_FnBox.f at h
 refine br_ite h rfl (fun c42 h => ?_) (fun c42 h => ?_)
 ·cases h; exact hk
 refine br_ite h rfl (fun c43 h => ?_) (fun c43 h => ?_)
 ·cases h; exact hk
 refine call_h N h (fun t0 e44 h => ?_)
 refine call_h N h (fun t1 e45 h => ?_)
 refine call_h N h (fun t2 e46 h => ?_)
 refine call_h N h (fun t3 e47 h => ?_)
 refine br_etn h rfl (fun c48 h => ?_) (fun c48 h => ?_)
 ·cases h; exact hk
 refine call_h N h (fun t4 e49 h => ?_)
 refine call_h N h (fun t5 e50 h => ?_)
 refine br_etn h (by first | rfl | exact dect | exact (congrArg not dect) | (simp; done) | (simp [beqI]; done) | (simp; omega)) (fun c51 h => ?_) (fun c51 h => ?_)
 ·cases h; exact hk
 refine call_h N h (fun t6 e52 h => ?_)
 refine br_etn h (by first | rfl | exact dect | exact (congrArg not dect) | (simp; done) | (simp [beqI]; done) | (simp; omega)) (fun c53 h => ?_) (fun c53 h => ?_)
 ·cases h; exact hk
 refine br_eti h dect (fun c54 h => ?_) (fun c54 h => ?_)
 ·refine call_h N h (fun t17 e55 h => ?_)
  refine call_h N h (fun t18 e56 h => ?_)
  refine call_h N h (fun t19 e57 h => ?_)
  refine br_eti h (by first | rfl | exact dect | exact (congrArg not dect) | (simp; done) | (simp [beqI]; done) | (simp; omega)) (fun c58 h => ?_) (fun c58 h => ?_)
  ·cases h; exact hk
  refine br_etn h (congrArg not dect) (fun c59 h => ?_) (fun c59 h => ?_)
  ·refine call_h 0 h (fun t20 e60 h => ?_)
   refine call_h N h (fun t21 e61 h => ?_)
   cases h; exact hk
  refine call_h N h (fun t22 e62 h => ?_)
  refine br_eti h rfl (fun c63 h => ?_) (fun c63 h => ?_)
  ·cases h; exact hk
  refine call_h N h (fun t23 e64 h => ?_)
  refine br_eti h dect (fun c65 h => ?_) (fun c65 h => ?_)
  ·cases h; exact hk
  refine call_h 0 h (fun t24 e66 h => ?_)
  refine call_h N h (fun t25 e67 h => ?_)
  cases h; exact hk
 refine call_h N h (fun t7 e68 h => ?_)
 refine br_etn h (congrArg not dect) (fun c69 h => ?_) (fun c69 h => ?_)
 ·cases h; exact hk
 refine call_h N h (fun t8 e70 h => ?_)
 refine call_h N h (fun t9 e71 h => ?_)
 refine call_h N h (fun t10 e72 h => ?_)
 refine br_eti h (by first | rfl | exact dect | exact (congrArg not dect) | (simp; done) | (simp [beqI]; done) | (simp; omega)) (fun c73 h => ?_) (fun c73 h => ?_)
 ·cases h; exact hk
 refine br_etn h (congrArg not dect) (fun c74 h => ?_) (fun c74 h => ?_)
 ·refine call_h 0 h (fun t11 e75 h => ?_)
  refine call_h N h (fun t12 e76 h => ?_)
  cases h; exact hk
 refine call_h N h (fun t13 e77 h => ?_)
 refine br_eti h rfl (fun c78 h => ?_) (fun c78 h => ?_)
 ·cases h; exact hk
 refine call_h N h (fun t14 e79 h => ?_)
 refine br_eti h dect (fun c80 h => ?_) (fun c80 h => ?_)
 ·cases h; exact hk
 refine call_h 0 h (fun t15 e81 h => ?_)
 refine call_h N h (fun t16 e82 h => ?_)
 cases h; exact hk
end Go.Proofs.YtlpgpckggnimhaaDoor.PFnBox
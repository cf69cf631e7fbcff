/- The machine's texts of FnExactSerialAll (the law's walk). Conditions: none. -/
import Derived.Test.YtkkmhlfpombgfaaPFnExactSerialAllx2
import Derived.Test.YtkkmhlfpombgfaaAm46
import Derived.Test.YtkkmhlfpombgfaaSWFnExactSerialAll
set_option linter.unusedVariables false
set_option linter.unusedSectionVars false
set_option maxRecDepth 100000
set_option maxHeartbeats 4000000
namespace Go.Proofs.Ytkkmhlfpombgfaa.PFnExactSerialAll
open Go.RowKit Go.Proofs.YtkkmhlfpombgfaaW.PrintWords Go.Proofs.YtkkmhlfpombgfaaW.PrintLast Go.Proofs.YtkkmhlfpombgfaaW.PrintMore
open Go Go.Proofs Am
def k136 : Kd S136 := Kd.iso (Kd.pair (Kd.int .i64) (Kd.int .i64)) (fun x : S136 => (x.f0, x.f1))
theorem k136_open {w : World} {x : S136} {cs : List Value} (h : k136.K w x cs) : cs = [.int .i64 x.f0, .int .i64 x.f1] := by
  obtain ⟨_, _, rfl, rfl, rfl⟩ := h
  exact rfl
def wf136 (x : S136) : Prop := (Lit.int .i64 (x.f0)).wf = true ∧ (Lit.int .i64 (x.f1)).wf = true
def wf175 (x : S175) : Prop := (Lit.int .i64 (x.f0)).wf = true ∧ (Lit.int .i64 (x.f1)).wf = true ∧ (Lit.int .i64 (x.f2)).wf = true ∧ (Lit.int .i64 (x.f3)).wf = true
theorem split136_th (cs : List Value) (h : cs.length = 2) : cs = (cs.drop 0).take 1 ++ ((cs.drop 1).take 1) := by
  match cs, h with
  | [c0, c1], _ => rfl
theorem opens136 : YtkkmhlfpombgfaaTh.Opens Try.prog 136 k136 wf136 := by
  intro H enc w fuel cs x h
  obtain ⟨xs, n, _, _, hl, hlen, hf⟩ := DataW.trod_struct Try.underlying136 h
  have hl2 : cs.length = 2 := hl.trans (by kernel_rfl)
  clear h hl
  have h0 : DataW.trod enc Try.prog w 0 (fun _ => true) true n 3 ((cs.drop 0).take (Try.prog.cellsOf 3)) = xs[0]? := hf 0 _ rfl
  rw [show Try.prog.cellsOf 3 = 1 from by kernel_rfl] at h0
  obtain ⟨y0, hy0⟩ := Option.isSome_iff_exists.1 (show (xs[0]?).isSome from by simp [hlen])
  rw [hy0] at h0
  obtain ⟨a0, ka0, wa0⟩ := (YtkkmhlfpombgfaaTh.opens_int Try.underlying3) enc w n _ _ h0
  have h1 : DataW.trod enc Try.prog w 0 (fun _ => true) true n 3 ((cs.drop 1).take (Try.prog.cellsOf 3)) = xs[1]? := hf 1 _ rfl
  rw [show Try.prog.cellsOf 3 = 1 from by kernel_rfl] at h1
  obtain ⟨y1, hy1⟩ := Option.isSome_iff_exists.1 (show (xs[1]?).isSome from by simp [hlen])
  rw [hy1] at h1
  obtain ⟨a1, ka1, wa1⟩ := (YtkkmhlfpombgfaaTh.opens_int Try.underlying3) enc w n _ _ h1
  clear hf
  refine ⟨⟨a0, a1⟩, ?_, ⟨wa0, wa1⟩⟩
  have e_ : cs = (cs.drop 0).take 1 ++ ((cs.drop 1).take 1) := by
    exact split136_th cs hl2
  rw [e_]
  exact ⟨_, _, rfl, ka0, ka1⟩
theorem split175_th (cs : List Value) (h : cs.length = 4) : cs = (cs.drop 0).take 1 ++ ((cs.drop 1).take 1 ++ ((cs.drop 2).take 1 ++ ((cs.drop 3).take 1))) := by
  match cs, h with
  | [c0, c1, c2, c3], _ => rfl
theorem opens175 : YtkkmhlfpombgfaaTh.Opens Try.prog 175 k175 wf175 := by
  intro H enc w fuel cs x h
  obtain ⟨xs, n, _, _, hl, hlen, hf⟩ := DataW.trod_struct Try.underlying175 h
  have hl2 : cs.length = 4 := hl.trans (by kernel_rfl)
  clear h hl
  have h0 : DataW.trod enc Try.prog w 0 (fun _ => true) true n 3 ((cs.drop 0).take (Try.prog.cellsOf 3)) = xs[0]? := hf 0 _ rfl
  rw [show Try.prog.cellsOf 3 = 1 from by kernel_rfl] at h0
  obtain ⟨y0, hy0⟩ := Option.isSome_iff_exists.1 (show (xs[0]?).isSome from by simp [hlen])
  rw [hy0] at h0
  obtain ⟨a0, ka0, wa0⟩ := (YtkkmhlfpombgfaaTh.opens_int Try.underlying3) enc w n _ _ h0
  have h1 : DataW.trod enc Try.prog w 0 (fun _ => true) true n 3 ((cs.drop 1).take (Try.prog.cellsOf 3)) = xs[1]? := hf 1 _ rfl
  rw [show Try.prog.cellsOf 3 = 1 from by kernel_rfl] at h1
  obtain ⟨y1, hy1⟩ := Option.isSome_iff_exists.1 (show (xs[1]?).isSome from by simp [hlen])
  rw [hy1] at h1
  obtain ⟨a1, ka1, wa1⟩ := (YtkkmhlfpombgfaaTh.opens_int Try.underlying3) enc w n _ _ h1
  have h2 : DataW.trod enc Try.prog w 0 (fun _ => true) true n 3 ((cs.drop 2).take (Try.prog.cellsOf 3)) = xs[2]? := hf 2 _ rfl
  rw [show Try.prog.cellsOf 3 = 1 from by kernel_rfl] at h2
  obtain ⟨y2, hy2⟩ := Option.isSome_iff_exists.1 (show (xs[2]?).isSome from by simp [hlen])
  rw [hy2] at h2
  obtain ⟨a2, ka2, wa2⟩ := (YtkkmhlfpombgfaaTh.opens_int Try.underlying3) enc w n _ _ h2
  have h3 : DataW.trod enc Try.prog w 0 (fun _ => true) true n 3 ((cs.drop 3).take (Try.prog.cellsOf 3)) = xs[3]? := hf 3 _ rfl
  rw [show Try.prog.cellsOf 3 = 1 from by kernel_rfl] at h3
  obtain ⟨y3, hy3⟩ := Option.isSome_iff_exists.1 (show (xs[3]?).isSome from by simp [hlen])
  rw [hy3] at h3
  obtain ⟨a3, ka3, wa3⟩ := (YtkkmhlfpombgfaaTh.opens_int Try.underlying3) enc w n _ _ h3
  clear hf
  refine ⟨⟨a0, a1, a2, a3⟩, ?_, ⟨wa0, wa1, wa2, wa3⟩⟩
  have e_ : cs = (cs.drop 0).take 1 ++ ((cs.drop 1).take 1 ++ ((cs.drop 2).take 1 ++ ((cs.drop 3).take 1))) := by
    exact split175_th cs hl2
  rw [e_]
  exact ⟨_, _, rfl, ka0, ⟨_, _, rfl, ka1, ⟨_, _, rfl, ka2, ka3⟩⟩⟩
theorem lr_pt {w : World} {lf lf' : Lf tau} {lt lt' : LT} {v v' : Value} (h1 : some lf' = some lf) (h2 : some lt' = some lt) (h3 : some v' = some v) (h : LR TT (Am.Safe eta0 (⟨[], []⟩ : Mem tau)) w lt' lf' v') : LR TT (Am.Safe eta0 (⟨[], []⟩ : Mem tau)) w lt lf v := by cases h1; cases h2; cases h3; exact h
theorem lr136 {w : World} {A : Option Addr} {c : Nat} {l : List S136} (h : Kd.C k136 w A l.length l) (hc : l.length ≤ c) : LR TT (Am.Safe eta0 (⟨[], []⟩ : Mem tau)) w (.sl 136) (.l 136 (l : List S136)) (.slice A l.length c) :=
 lr_of (τ := tau) (T := TT) (e := 136) (te := ⟨[.int .i64, .int .i64], .st [(0, 3), (1, 3)]⟩) rfl (fun k => safe0 k) (rows := (l : List S136)) hc (by decide) (fun j hj => by
  replace hj : j < l.length := hj
  obtain ⟨ad, cs, e1, _, hK, hc0⟩ := Kd.C_get h z136 (j : Int) (Int.natCast_nonneg j) (Int.ofNat_lt.2 hj)
  have e0 : List.getD l ((j : Int)).toNat z136 = l[j] := by rw [Int.toNat_natCast, List.getD_eq_getElem?_getD, List.getElem?_eq_getElem hj]; rfl
  rw [e0] at hK
  obtain rfl := k136_open hK
  refine ⟨ad, _, e1, rfl, fun o u hu => hc0 o u hu, rfl, fun o lf lt v h1 h2 h3 => ?_⟩
  rcases o with _ | _ | o
  · exact lr_pt h1 h2 h3 (.int _ _)
  · exact lr_pt h1 h2 h3 (.int _ _)
  · simp at h3)
theorem lr175 {w : World} {A : Option Addr} {c : Nat} {l : List S175} (h : Kd.C k175 w A l.length l) (hc : l.length ≤ c) : LR TT (Am.Safe eta0 (⟨[], []⟩ : Mem tau)) w (.sl 175) (.l 175 (l : List S175)) (.slice A l.length c) :=
 lr_of (τ := tau) (T := TT) (e := 175) (te := ⟨[.int .i64, .int .i64, .int .i64, .int .i64], .st [(0, 3), (1, 3), (2, 3), (3, 3)]⟩) rfl (fun k => safe0 k) (rows := (l : List S175)) hc (by decide) (fun j hj => by
  replace hj : j < l.length := hj
  obtain ⟨ad, cs, e1, _, hK, hc0⟩ := Kd.C_get h z175 (j : Int) (Int.natCast_nonneg j) (Int.ofNat_lt.2 hj)
  have e0 : List.getD l ((j : Int)).toNat z175 = l[j] := by rw [Int.toNat_natCast, List.getD_eq_getElem?_getD, List.getElem?_eq_getElem hj]; rfl
  rw [e0] at hK
  obtain rfl := k175_open hK
  refine ⟨ad, _, e1, rfl, fun o u hu => hc0 o u hu, rfl, fun o lf lt v h1 h2 h3 => ?_⟩
  rcases o with _ | _ | _ | _ | o
  · exact lr_pt h1 h2 h3 (.int _ _)
  · exact lr_pt h1 h2 h3 (.int _ _)
  · exact lr_pt h1 h2 h3 (.int _ _)
  · exact lr_pt h1 h2 h3 (.int _ _)
  · simp at h3)
theorem lr133 {w : World} {A : Option Addr} {c : Nat} {l : List (List S175)} (h : Kd.C (Kd.slice 175 k175) w A l.length l) (hc : l.length ≤ c) : LR TT (Am.Safe eta0 (⟨[], []⟩ : Mem tau)) w (.sl 133) (.l 133 (l : List (List S175))) (.slice A l.length c) :=
 lr_of (τ := tau) (T := TT) (e := 133) (te := ⟨[.sl 175], .sl 175⟩) rfl (fun k => safe0 k) (rows := (l : List (List S175))) hc (by decide) (fun j hj => by
  replace hj : j < l.length := hj
  obtain ⟨ad, cs, e1, _, hK, hc0⟩ := Kd.C_get h [] (j : Int) (Int.natCast_nonneg j) (Int.ofNat_lt.2 hj)
  have e0 : List.getD l ((j : Int)).toNat [] = l[j] := by rw [Int.toNat_natCast, List.getD_eq_getElem?_getD, List.getElem?_eq_getElem hj]; rfl
  rw [e0] at hK
  obtain ⟨A0, c0, rfl, l0, g0⟩ := hK
  refine ⟨ad, _, e1, rfl, fun o u hu => hc0 o u hu, rfl, fun o lf lt v h1 h2 h3 => ?_⟩
  rcases o with _ | o
  · exact lr_pt h1 h2 h3 (lr175 g0 l0)
  · simp at h3)
theorem rr95 {w : World} {base : Nat} {ok : Nat → Prop} {v : Value} {l : List S95} {S : Nat → Prop} (h : Kd.R k95 95 w base ok v l) (hS : ∀ k, base ≤ k → S k) : LR TT S w (.sl 95) (.l 95 (l : List S95)) v := by
  obtain ⟨A, c, rfl⟩ := Kd.R_slice h
  refine lr_of2 (τ := tau) (T := TT) (e := 95) (te := ⟨[.int .i64, .int .i64, .int .i64, .int .i64], .st [(0, 3), (1, 3), (2, 3), (3, 3)]⟩) rfl (fun ad e_ => ?_) (rows := (l : List S95)) (Kd.R_reads' h).2.1 (by decide) (fun j hj => ?_)
  · subst e_
    obtain ⟨g, rfl⟩ := Kd.R_head h
    exact hS _ (Kd.R_base h _ (by simp [Value.ownBlock]))
  · replace hj : j < l.length := hj
    obtain ⟨g, cap, e_, _⟩ := Kd.R_form h (by omega)
    cases e_
    obtain ⟨cs, hcl, hM, hcc⟩ := Kd.R_get h z95 (j : Int) (Int.natCast_nonneg j) (Int.ofNat_lt.2 hj)
    have e0 : List.getD l ((j : Int)).toNat z95 = l[j] := by rw [Int.toNat_natCast, List.getD_eq_getElem?_getD, List.getElem?_eq_getElem hj]; rfl
    rw [e0] at hM
    obtain rfl := k95_openM hM
    refine ⟨_, _, rfl, rfl, fun o u hu => hcc o u hu, rfl, fun o lf lt v h1 h2 h3 => ?_⟩
    rcases o with _ | _ | _ | _ | o
    · exact lr_pt2 h1 h2 h3 (.int _ _)
    · exact lr_pt2 h1 h2 h3 (.int _ _)
    · exact lr_pt2 h1 h2 h3 (.int _ _)
    · exact lr_pt2 h1 h2 h3 (.int _ _)
    · simp at h3
theorem rr60 {w : World} {base : Nat} {ok : Nat → Prop} {v : Value} {l : List (List S95)} {S : Nat → Prop} (h : Kd.R (Kd.slice 95 k95) 60 w base ok v l) (hS : ∀ k, base ≤ k → S k) : LR TT S w (.sl 60) (.l 60 (l : List (List S95))) v := by
  obtain ⟨A, c, rfl⟩ := Kd.R_slice h
  refine lr_of2 (τ := tau) (T := TT) (e := 60) (te := ⟨[.sl 95], .sl 95⟩) rfl (fun ad e_ => ?_) (rows := (l : List (List S95))) (Kd.R_reads' h).2.1 (by decide) (fun j hj => ?_)
  · subst e_
    obtain ⟨g, rfl⟩ := Kd.R_head h
    exact hS _ (Kd.R_base h _ (by simp [Value.ownBlock]))
  · replace hj : j < l.length := hj
    obtain ⟨g, cap, e_, _⟩ := Kd.R_form h (by omega)
    cases e_
    obtain ⟨cs, hcl, hM, hcc⟩ := Kd.R_get h [] (j : Int) (Int.natCast_nonneg j) (Int.ofNat_lt.2 hj)
    have e0 : List.getD l ((j : Int)).toNat [] = l[j] := by rw [Int.toNat_natCast, List.getD_eq_getElem?_getD, List.getElem?_eq_getElem hj]; rfl
    rw [e0] at hM
    obtain ⟨u0, rfl, g0⟩ := hM
    refine ⟨_, _, rfl, rfl, fun o u hu => hcc o u hu, rfl, fun o lf lt v h1 h2 h3 => ?_⟩
    rcases o with _ | o
    · exact lr_pt2 h1 h2 h3 (rr95 g0 hS)
    · simp at h3
theorem elAll (e : TypeId) (he : TT.el e = true) : ElOk TT e := by
 have h := memN_iff.1 he
 simp only [List.mem_cons, List.not_mem_nil, or_false] at h
 rcases h with rfl | rfl | rfl | rfl | rfl | rfl | rfl | rfl | rfl
 · exact el_3
 · exact el_37
 · exact el_39
 · exact el_60
 · exact el_82
 · exact el_95
 · exact el_133
 · exact el_136
 · exact el_175
section
variable [Kn]
def TK : Tab tau := { TT with val := Kn.G.val, gl := glG Kn.G, glN := glG_next Kn.G }
theorem pqK : PQ Try.prog TK byT := pq_of asked rfl (fun e he => show ElOk TT e from elAll e he)
def E_4 : Env tau := { mkE [(0, [(0, .one (.own 136)), (1, .one (.own 133))]), (1, [(0, .one (.own 136)), (1, .one (.own 133))]), (2, [(0, .one (.own 136)), (1, .one (.own 133)), (5, .one .any)]), (3, [(0, .one (.own 136)), (1, .one (.own 133)), (5, .one .any)]), (4, []), (5, [(0, .one (.own 136)), (1, .one (.own 133)), (5, .one .any)]), (6, [(0, .one (.own 136)), (1, .one (.own 133)), (5, .one .any)]), (7, []), (8, [(0, .one (.own 136)), (1, .one (.own 133))]), (9, [(0, .one (.own 136)), (1, .one (.own 133)), (6, .one (.own 37)), (7, .one (.own 3))]), (10, [(0, .one (.own 136)), (1, .one (.own 133)), (6, .one (.own 37)), (7, .one (.own 3)), (8, .one (.own 37))]), (11, [(0, .one (.own 136)), (1, .one (.own 133)), (6, .one (.own 37)), (7, .one (.own 3)), (8, .one (.own 37)), (9, .one (.own 60))]), (12, [(0, .one (.own 136)), (1, .one (.own 133)), (6, .one (.own 37)), (7, .one (.own 3)), (8, .one (.own 37)), (9, .one (.own 60)), (10, .one (.own 37)), (11, .one (.own 3))]), (13, []), (14, [(0, .one (.own 136)), (1, .one (.own 133)), (6, .one (.own 37)), (7, .one (.own 3)), (8, .one (.own 37)), (9, .one (.own 60)), (10, .one (.own 37)), (11, .one (.own 3))]), (15, []), (16, [(0, .one (.own 136)), (1, .one (.own 133)), (6, .one (.own 37)), (7, .one (.own 3)), (8, .one (.own 37)), (9, .one (.own 60)), (10, .one (.own 37)), (11, .one (.own 3))]), (17, []), (18, [(0, .one (.own 136)), (1, .one (.own 133)), (6, .one (.own 37)), (7, .one (.own 3)), (8, .one (.own 37)), (9, .one (.own 60)), (10, .one (.own 37)), (11, .one (.own 3))]), (19, [(0, .one (.own 136)), (1, .one (.own 133)), (6, .one (.own 37)), (7, .one (.own 3)), (8, .one (.own 37)), (9, .one (.own 60)), (10, .one (.own 37)), (11, .one (.own 3)), (12, .one .any)]), (20, [(0, .one (.own 136)), (1, .one (.own 133)), (6, .one (.own 37)), (7, .one (.own 3)), (9, .one (.own 60)), (10, .one (.own 37)), (11, .one (.own 3)), (12, .one .any)]), (21, [(0, .one (.own 136)), (1, .one (.own 133)), (6, .one (.own 37)), (7, .one (.own 3)), (10, .one (.own 37)), (11, .one (.own 3)), (12, .one .any)]), (22, []), (23, [(0, .one (.own 136)), (1, .one (.own 133)), (6, .one (.own 37)), (7, .one (.own 3)), (10, .one (.own 37)), (11, .one (.own 3))]), (24, [(0, .one (.own 136)), (1, .one (.own 133)), (6, .one (.own 37)), (7, .one (.own 3)), (10, .one (.own 37)), (11, .one (.own 3)), (13, .one .any)]), (25, [(0, .one (.own 136)), (1, .one (.own 133)), (6, .one (.own 37)), (7, .one (.own 3)), (10, .one (.own 37)), (11, .one (.own 3)), (13, .one .any)]), (26, [(0, .one (.own 136)), (1, .one (.own 133)), (6, .one (.own 37)), (7, .one (.own 3)), (10, .one (.own 37)), (11, .one (.own 3)), (13, .one .any)]), (27, [(0, .one (.own 136)), (1, .one (.own 133)), (6, .one (.own 37)), (7, .one (.own 3)), (10, .one (.own 37)), (11, .one (.own 3)), (13, .one .any), (14, .one .any)]), (28, [(0, .one (.own 136)), (1, .one (.own 133)), (6, .one (.own 37)), (7, .one (.own 3)), (10, .one (.own 37)), (11, .one (.own 3)), (13, .one .any), (14, .one .any)]), (29, []), (30, [(0, .one (.own 136)), (1, .one (.own 133)), (6, .one (.own 37)), (7, .one (.own 3)), (10, .one (.own 37)), (11, .one (.own 3)), (13, .one .any), (14, .one .any)]), (31, [(0, .one (.own 136)), (1, .one (.own 133)), (6, .one (.own 37)), (7, .one (.own 3)), (10, .one (.own 37)), (11, .one (.own 3)), (13, .one .any), (14, .one .any)]), (32, []), (33, [(0, .one (.own 136)), (1, .one (.own 133)), (6, .one (.own 37)), (7, .one (.own 3)), (10, .one (.own 37)), (11, .one (.own 3)), (13, .one .any), (14, .one .any)]), (34, []), (35, [(0, .one (.own 136)), (1, .one (.own 133)), (6, .one (.own 37)), (7, .one (.own 3)), (10, .one (.own 37)), (11, .one (.own 3)), (13, .one .any)]), (36, [(6, .one (.own 37)), (7, .one (.own 3)), (10, .one (.own 37)), (11, .one (.own 3)), (13, .one .any), (15, .one (.own 37)), (16, .one (.own 3))]), (37, []), (38, [(10, .one (.own 37)), (11, .one (.own 3)), (13, .one .any)]), (39, [(10, .one (.own 37)), (11, .one (.own 3)), (13, .one .any), (14, .one .any)]), (40, [(11, .one (.own 3)), (13, .one .any), (14, .one .any)]), (41, []), (42, [(11, .one (.own 3)), (13, .one .any), (14, .one .any)]), (43, [(13, .one .any), (14, .one .any)]), (44, []), (45, [(13, .one .any), (14, .one .any)]), (46, []), (47, [])] [.one .any] ⟨0, 0⟩ with T := TK }
omit [Kn] in
theorem c_law_ok : CtrOk Try.prog TT pnT (ctrS 37 c_37 C_37) := ctrS_ok okC_37 okc_37
noncomputable def C_4 : Ctr tau Unit := ctrN (ctrS 37 c_37 C_37)
noncomputable def B_4 : Code := Try.f4.body.getD .skip
def rho1 (l0 : List S136) (l1 : List (List S175)) : Nat → AV tau | 0 => .sl 133 l1 | 2 => .sl 136 l0 | _ => .bad
def rho2 (l0 : List S136) (l1 : List (List S175)) (L : List (List S95)) : Nat → AV tau | 0 => .sl 133 l1 | 1 => .sl 60 L | 2 => .sl 136 l0 | _ => .bad
noncomputable def run_P1 (l0 : List S136) (l1 : List (List S175)) (k : AV tau → Mem tau → Option Unit) (kn : St tau → Option Unit) : Option Unit := codeT E_4 (ctrO (rho1 l0 l1) C_4) (drawA E_4 (ctrO (rho1 l0 l1) C_4)) 8 B_4 kn (kEnd E_4 Try.f4 k) ⟨[.opq 2, .opq 0] ++ unds 133, ⟨[], []⟩⟩
def STK1 (x0 : (List S37)) (x1 : (List Int)) (x2 : (List S37)) : St tau := ⟨tmL 135 0 [(0, .opq 2), (1, .opq 0), (6, .own 0 0), (7, .own 1 0), (8, .own 2 0)], ⟨[], [some ⟨37, x0, 0⟩, some ⟨3, x1, 0⟩, some ⟨37, x2, 0⟩]⟩⟩
noncomputable def RES1 (l0 : List S136) (l1 : List (List S175)) (k : AV tau → Mem tau → Option Unit) (g : (List S37) → (List Int) → (List S37) → Option Unit) : Option Unit := callX (fun n => laws_szBoxS.f l0 (1048576 : Int)) fun t0 => brA (decide (t0 < (0 : Int))) (k (.bool true) ⟨[], []⟩) (callX (fun n => laws_szInsSS.f n l1 t0) fun t1 => brA (decide (t1 < (0 : Int))) (k (.bool true) ⟨[], []⟩) (callX (fun n => laws_toBoxS.f n l0) fun t2 => callX (fun n => laws_toInsSS.f n l1) fun t3 => callX (fun n => spec_SerialAll.f n t2 t3) fun t4 => callX (fun n => laws_toBoxS.f n l0) fun t5 => g t4.1 t4.2 t5))
theorem w_P1 (l0 : List S136) (l1 : List (List S175)) (k : AV tau → Mem tau → Option Unit) (kn : St tau → Option Unit) : run_P1 l0 l1 k kn = RES1 l0 l1 k (fun x0_ x1_ x2_ => kn (STK1 x0_ x1_ x2_)) := by kernel_rfl
theorem RES1_mono (l0 : List S136) (l1 : List (List S175)) {k : AV tau → Mem tau → Option Unit} {g g' : (List S37) → (List Int) → (List S37) → Option Unit} (hg : ∀ x0_ x1_ x2_, g x0_ x1_ x2_ = some () → g' x0_ x1_ x2_ = some ()) (h : RES1 l0 l1 k g = some ()) : RES1 l0 l1 k g' = some () := by
  unfold RES1 at h ⊢
  repeat' first | exact hg _ _ _ h | exact h | refine callX_mono (fun _ h => ?_) h | refine brA_mono (fun h => ?_) (fun h => ?_) h
noncomputable def run_P2 (l0 : List S136) (l1 : List (List S175)) (x1 : List S37) (x2 : List Int) (x3 : List S37) (L : List (List S95)) (k : AV tau → Mem tau → Option Unit) (kn : St tau → Option Unit) : Option Unit := codeT E_4 (ctrO (rho2 l0 l1 L) C_4) (drawA E_4 (ctrO (rho2 l0 l1 L) C_4)) 6 (dropC 9 B_4) kn (kEnd E_4 Try.f4 k) ⟨tmL 135 0 [(0, .opq 2), (1, .opq 0), (6, .own 0 0), (7, .own 1 0), (8, .own 2 0), (9, .opq 1)], ⟨[], [some ⟨37, x1, 0⟩, some ⟨3, x2, 0⟩, some ⟨37, x3, 0⟩]⟩⟩
def STK2 (x0 : Int) (x1 : (List S37)) (x2 : (List Int)) (x3 : (List S37)) (x4 : (List Int)) : St tau := ⟨tmL 135 0 [(0, .opq 2), (1, .opq 0), (6, .own 0 0), (7, .own 1 0), (9, .opq 1), (10, .own 2 0), (11, .own 3 0), (12, .int .i64 x0)], ⟨[], [some ⟨37, x1, 0⟩, some ⟨3, x2, 0⟩, some ⟨37, x3, 0⟩, some ⟨3, x4, 0⟩]⟩⟩
noncomputable def RES2 (l0 : List S136) (l1 : List (List S175)) (x1 : List S37) (x2 : List Int) (x3 : List S37) (L : List (List S95)) (k : AV tau → Mem tau → Option Unit) (g : Int → (List S37) → (List Int) → (List S37) → (List Int) → Option Unit) : Option Unit := callX (fun n => impl_SerialAll.f n x3 L) fun t0 => callX (fun n => laws_eqBoxS.f n t0.1 x1) fun t1 => brA (!t1) (k (.bool false) ⟨[], []⟩) (callX (fun n => laws_eqIntS.f n t0.2 x2) fun t2 => brA (!t2) (k (.bool false) ⟨[], []⟩) (callX (fun n => laws_toBoxS.f n l0) fun t3 => callX (fun n => laws_eqBoxS.f n x3 t3) fun t4 => brA (!t4) (k (.bool false) ⟨[], []⟩) (callX (fun n => laws_toInsSS.f n l1) fun t5 => callX (fun n => laws_eqInsSS.f n L t5) fun t6 => brA (!t6) (k (.bool false) ⟨[], []⟩) (callX (fun n => laws_markBoxS.f n x3 (1 : Int)) fun t7 => g t7.1 x1 x2 t0.1 t0.2))))
theorem w_P2 (l0 : List S136) (l1 : List (List S175)) (x1 : List S37) (x2 : List Int) (x3 : List S37) (L : List (List S95)) (k : AV tau → Mem tau → Option Unit) (kn : St tau → Option Unit) : run_P2 l0 l1 x1 x2 x3 L k kn = RES2 l0 l1 x1 x2 x3 L k (fun x0_ x1_ x2_ x3_ x4_ => kn (STK2 x0_ x1_ x2_ x3_ x4_)) := by kernel_rfl
theorem RES2_mono (l0 : List S136) (l1 : List (List S175)) (x1 : List S37) (x2 : List Int) (x3 : List S37) (L : List (List S95)) {k : AV tau → Mem tau → Option Unit} {g g' : Int → (List S37) → (List Int) → (List S37) → (List Int) → Option Unit} (hg : ∀ x0_ x1_ x2_ x3_ x4_, g x0_ x1_ x2_ x3_ x4_ = some () → g' x0_ x1_ x2_ x3_ x4_ = some ()) (h : RES2 l0 l1 x1 x2 x3 L k g = some ()) : RES2 l0 l1 x1 x2 x3 L k g' = some () := by
  unfold RES2 at h ⊢
  repeat' first | exact hg _ _ _ _ _ h | exact h | refine callX_mono (fun _ h => ?_) h | refine brA_mono (fun h => ?_) (fun h => ?_) h
noncomputable def run_P3 (l0 : List S136) (l1 : List (List S175)) (x1 : Int) (x2 : List S37) (x3 : List Int) (x4 : List S37) (x5 : List Int) (k : AV tau → Mem tau → Option Unit) (kn : St tau → Option Unit) : Option Unit := codeA E_4 (ctrO (rho1 l0 l1) C_4) (drawA E_4 (ctrO (rho1 l0 l1) C_4)) (dropC 16 B_4) (kEnd E_4 Try.f4 k) ⟨tmL 135 0 [(0, .opq 2), (1, .opq 0), (6, .own 0 0), (7, .own 1 0), (9, .opq 1), (10, .own 2 0), (11, .own 3 0), (12, .int .i64 x1)], ⟨[], [some ⟨37, x2, 0⟩, some ⟨3, x3, 0⟩, some ⟨37, x4, 0⟩, some ⟨3, x5, 0⟩]⟩⟩
noncomputable def RES3 (l0 : List S136) (l1 : List (List S175)) (x1 : Int) (x2 : List S37) (x3 : List Int) (x4 : List S37) (x5 : List Int) (k : AV tau → Mem tau → Option Unit) : Option Unit := brA (decide (x1 < (0 : Int))) (k (.bool false) ⟨[], []⟩) (callX (fun n => laws_eqBoxS.f n x4 x2) fun t0 => brA (!t0) (k (.bool false) ⟨[], []⟩) (callX (fun n => laws_eqIntS.f n x5 x3) fun t1 => brA (!t1) (k (.bool false) ⟨[], []⟩) (callX (fun n => laws_markBoxS.f n x4 (1 : Int)) fun t2 => callX (fun n => laws_markIntS.f n x5 t2.1) fun t3 => callX (fun n => laws_heldBoxS.f n t2.2 (1 : Int)) fun t4 => brA (decide (t4 < (0 : Int))) (k (.bool false) ⟨[], []⟩) (callX (fun n => laws_heldIntS.f n t3.2 t4) fun t5 => brA (decide (t5 < (0 : Int))) (k (.bool false) ⟨[], []⟩) (brA (!(decide (t5 = t3.1))) (k (.bool false) ⟨[], []⟩) (callX (fun n => laws_toBoxS.f n l0) fun t6 => callX (fun n => laws_toInsSS.f n l1) fun t7 => callX (fun n => impl_SerialAll.f n t6 t7) fun t8 => callX (fun n => laws_eqBoxS.f n t8.1 x2) fun t9 => brA (!t9) (k (.bool false) ⟨[], []⟩) (callX (fun n => laws_eqIntS.f n t8.2 x3) fun t10 => brA (!t10) (k (.bool false) ⟨[], []⟩) (callX (fun n => laws_heldBoxS.f n t2.2 (1 : Int)) fun t11 => brA (decide (t11 < (0 : Int))) (k (.bool false) ⟨[], []⟩) (callX (fun n => laws_heldIntS.f n t3.2 t11) fun t12 => brA (decide (t12 < (0 : Int))) (k (.bool false) ⟨[], []⟩) (brA (!(decide (t12 = t3.1))) (k (.bool false) ⟨[], []⟩) (k (.bool true) ⟨[], []⟩)))))))))))
theorem w_P3 (l0 : List S136) (l1 : List (List S175)) (x1 : Int) (x2 : List S37) (x3 : List Int) (x4 : List S37) (x5 : List Int) (k : AV tau → Mem tau → Option Unit) (kn : St tau → Option Unit) : run_P3 l0 l1 x1 x2 x3 x4 x5 k kn = RES3 l0 l1 x1 x2 x3 x4 x5 k := by kernel_rfl
end
def laws_FnExactSerialAll.Pure : Prop := ∀ (l0 : (List S136)) (l1 : (List (List S175))), (l0.length ≤ 9223372036854775807 ∧ ∀ y ∈ l0, wf136 y) → (l1.length ≤ 9223372036854775807 ∧ ∀ y ∈ l1, (y.length ≤ 9223372036854775807 ∧ ∀ z ∈ y, wf175 z)) →
  RES1 l0 l1 isTrue (fun x1 x2 x3 => callX (fun n => laws_toInsSS.f n l1) fun L => RES2 l0 l1 x1 x2 x3 L isTrue (fun y0 y1 y2 y3 y4 => callX (fun n => laws_markInsSS.f n L y0) fun z => RES3 l0 l1 z y1 y2 y3 y4 isTrue)) = some ()
/-- What is read of the arguments where they are known. -/
theorem rho1_ok (G : Kn) {l0 : List S136} {l1 : List (List S175)} {w : World} {v0 v1 : Value} (lv0 : LR TT (Am.Safe eta0 (⟨[], []⟩ : Mem tau)) w (.sl 136) (.l 136 (l0 : List S136)) v0) (lv1 : LR TT (Am.Safe eta0 (⟨[], []⟩ : Mem tau)) w (.sl 133) (.l 133 (l1 : List (List S175))) v1)
    (hG : ∀ k, k < w.heap.size → ∃ o, w.heap[k]? = some o ∧ G.G.hp k = some o) (h0 : G.G.val 0 = v1) (h2 : G.G.val 2 = v0) : ∀ (w' : World) (η : Eta) (m : Mem tau), MR (@TK G) w' η m → ∀ n, VR (@TK G) (Am.Safe η m) w' m η (rho1 l0 l1 n) ((@TK G).val n) := by
  intro w' η m hm n
  match n with
  | 0 => show VR (@TK G) (Am.Safe η m) w' m η (.sl 133 (l1 : List (List S175))) (G.G.val 0); rw [h0]; exact .sl _ _ _ ((LR.tab (T := TT) (T' := @TK G) rfl rfl lv1).known (G := G.G) (fun k _ hk => hG k hk) hm.gl)
  | 1 => exact .bad _
  | 2 => show VR (@TK G) (Am.Safe η m) w' m η (.sl 136 (l0 : List S136)) (G.G.val 2); rw [h2]; exact .sl _ _ _ ((LR.tab (T := TT) (T' := @TK G) rfl rfl lv0).known (G := G.G) (fun k _ hk => hG k hk) hm.gl)
  | n + 3 => exact .bad _
theorem rho2_ok (G : Kn) {l0 : List S136} {l1 : List (List S175)} {L : List (List S95)} {w wc : World} {v0 v1 v : Value} {N : Nat} (lv0 : LR TT (Am.Safe eta0 (⟨[], []⟩ : Mem tau)) w (.sl 136) (.l 136 (l0 : List S136)) v0) (lv1 : LR TT (Am.Safe eta0 (⟨[], []⟩ : Mem tau)) w (.sl 133) (.l 133 (l1 : List (List S175))) v1)
    (lv : LR TT (fun k => N ≤ k) wc (.sl 60) (.l 60 (L : List (List S95))) v) (hG : ∀ k, k < w.heap.size → ∃ o, w.heap[k]? = some o ∧ G.G.hp k = some o) (hC : ∀ k, N ≤ k → k < wc.heap.size → ∃ o, wc.heap[k]? = some o ∧ G.G.hp k = some o)
    (h0 : G.G.val 0 = v1) (h1 : G.G.val 1 = v) (h2 : G.G.val 2 = v0) : ∀ (w' : World) (η : Eta) (m : Mem tau), MR (@TK G) w' η m → ∀ n, VR (@TK G) (Am.Safe η m) w' m η (rho2 l0 l1 L n) ((@TK G).val n) := by
  intro w' η m hm n
  match n with
  | 0 => show VR (@TK G) (Am.Safe η m) w' m η (.sl 133 (l1 : List (List S175))) (G.G.val 0); rw [h0]; exact .sl _ _ _ ((LR.tab (T := TT) (T' := @TK G) rfl rfl lv1).known (G := G.G) (fun k _ hk => hG k hk) hm.gl)
  | 1 => show VR (@TK G) (Am.Safe η m) w' m η (.sl 60 (L : List (List S95))) (G.G.val 1); rw [h1]; exact .sl _ _ _ ((LR.tab (T := TT) (T' := @TK G) rfl rfl lv).known (G := G.G) hC hm.gl)
  | 2 => show VR (@TK G) (Am.Safe η m) w' m η (.sl 136 (l0 : List S136)) (G.G.val 2); rw [h2]; exact .sl _ _ _ ((LR.tab (T := TT) (T' := @TK G) rfl rfl lv0).known (G := G.G) (fun k _ hk => hG k hk) hm.gl)
  | n + 3 => exact .bad _
abbrev QW (w : World) : Exit → Act → World → Prop := bodyPost Try.prog Try.f4 (fun e w' => e = .returned (.bool true) ∧ Below w.heap.size w w')
/-- Behind the mark. -/
theorem piece3 (G : Kn) {l0 : List S136} {l1 : List (List S175)} {z : Int} {y1 : List S37} {y2 : List Int} {y3 : List S37} {y4 : List Int} {w w' : World} {a : Act} {η : Eta} (hρ : ∀ (w' : World) (η : Eta) (m : Mem tau), MR (@TK G) w' η m → ∀ n, VR (@TK G) (Am.Safe η m) w' m η (rho1 l0 l1 n) ((@TK G).val n))
    (hres : RES3 l0 l1 z y1 y2 y3 y4 isTrue = some ()) (hat : AtR (@TK G) w eta0 ⟨[], []⟩ ⟨0, 0⟩ w' ⟨tmL 135 0 [(0, .opq 2), (1, .opq 0), (6, .own 0 0), (7, .own 1 0), (9, .opq 1), (10, .own 2 0), (11, .own 3 0), (12, .int .i64 z)], ⟨[], [some ⟨37, y1, 0⟩, some ⟨3, y2, 0⟩, some ⟨37, y3, 0⟩, some ⟨3, y4, 0⟩]⟩⟩ a.tmps η) (hd : a.defers = []) :
    (dropC 16 B_4).wp Try.prog (QW w) a w' := by
  have hC := ctrO_ok hρ (ctrN_ok (T := TT) (T' := @TK G) rfl rfl (fun _ _ => trivial) c_law_ok)
  refine codeA_sound (E := @E_4 G) (@pqK G) hC (drawA_ok (@pqK G) hC hmix) _ _ _ _ _ (QW w) ((@w_P3 G l0 l1 z y1 y2 y3 y4 isTrue (fun _ => none)).trans hres) ⟨η, hat⟩ ?_
  rw [hd]
  exact kEnd_true (@pqK G) rfl
/-- From behind the first call by hand: the mark is made by hand. -/
theorem piece2 {l0 : List S136} {l1 : List (List S175)} {L : List (List S95)} {x1 : List S37} {x2 : List Int} {x3 : List S37} {w wb wc : World} {v0 v1 v : Value} {a : Act} {η : Eta}
    (lv0 : LR TT (Am.Safe eta0 (⟨[], []⟩ : Mem tau)) w (.sl 136) (.l 136 (l0 : List S136)) v0) (lv1 : LR TT (Am.Safe eta0 (⟨[], []⟩ : Mem tau)) w (.sl 133) (.l 133 (l1 : List (List S175))) v1) (hw : w.heap.size ≤ wb.heap.size)
    (hS : Kd.S (Kd.slice 95 k95) 60 wc wb.heap.size (fun _ => True) v L) (hres : RES2 l0 l1 x1 x2 x3 L isTrue (fun y0 y1 y2 y3 y4 => callX (fun n => laws_markInsSS.f n L y0) fun z => RES3 l0 l1 z y1 y2 y3 y4 isTrue) = some ())
    (hat : AtR (@TK ⟨⟨hpC w wb.heap.size wc, valW v1 v v0⟩⟩) w eta0 ⟨[], []⟩ ⟨0, 0⟩ wc ⟨tmL 135 0 [(0, .opq 2), (1, .opq 0), (6, .own 0 0), (7, .own 1 0), (8, .own 2 0), (9, .opq 1)], ⟨[], [some ⟨37, x1, 0⟩, some ⟨3, x2, 0⟩, some ⟨37, x3, 0⟩]⟩⟩ a.tmps η) (hd : a.defers = []) :
    (dropC 9 B_4).wp Try.prog (QW w) a wc := by
  have hsz : w.heap.size ≤ wc.heap.size := hat.agree.size
  obtain ⟨G, hG⟩ : ∃ G : Kn, G = ⟨⟨hpC w wb.heap.size wc, valW v1 v v0⟩⟩ := ⟨_, rfl⟩
  rw [← hG] at hat
  have hC := ctrO_ok (rho2_ok G lv0 lv1 (rr60 (Kd.S_R hS) (S := fun k => wb.heap.size ≤ k) (fun k hk => hk)) (knows_C0 (G := G.G) (N := wb.heap.size) (wc := wc) (by subst hG; rfl)) (knows_C1 (G := G.G) (N := wb.heap.size) (wc := wc) (by subst hG; rfl) hw) (by subst hG; rfl) (by subst hG; rfl) (by subst hG; rfl)) (ctrN_ok (T := TT) (T' := @TK G) rfl rfl (fun _ _ => trivial) c_law_ok)
  have hrun : run_P2 l0 l1 x1 x2 x3 L isTrue (knA (fun (x : Int × List S37 × List Int × List S37 × List Int) => STK2 x.1 x.2.1 x.2.2.1 x.2.2.2.1 x.2.2.2.2) (fun x => callX (fun n => laws_markInsSS.f n L x.1) fun z => RES3 l0 l1 z x.2.1 x.2.2.1 x.2.2.2.1 x.2.2.2.2 isTrue)) = some () := by
    rw [w_P2]
    refine RES2_mono _ _ _ _ _ _ (fun y0 y1 y2 y3 y4 h => ?_) hres
    exact knA_of (st := fun (x : Int × List S37 × List Int × List S37 × List Int) => STK2 x.1 x.2.1 x.2.2.1 x.2.2.2.1 x.2.2.2.2) (x := (y0, y1, y2, y3, y4)) h
  refine codeT_sound (E := @E_4 G) (@pqK G) hC (drawA_ok (@pqK G) hC hmix) (kEnd_true (@pqK G) rfl) 6 (dropC 9 B_4) _ a wc hrun ⟨η, hat⟩ hd (fun s' a' w2 hkn hat2 hd2 => ?_)
  obtain ⟨⟨y0, y1, y2, y3, y4⟩, rfl, hmark⟩ := knA_some hkn
  obtain ⟨Nm, z, hmk, hres3⟩ := callX_some hmark
  simp only at hmk hres3
  obtain ⟨η2, h0⟩ := hat2
  replace h0 : AtR (@TK G) w eta0 ⟨[], []⟩ ⟨0, 0⟩ w2 (STK2 y0 y1 y2 y3 y4) a'.tmps η2 := h0
  have e20 : dropC 6 (dropC 9 B_4) = Code.seq (.region 20 (headOps (dropC 15 B_4)) false) (dropC 16 B_4) := by kernel_rfl
  have le20 : (headOps (dropC 15 B_4)).toList = [opNo (dropC 15 B_4) 0, opNo (dropC 15 B_4) 1, opNo (dropC 15 B_4) 2, opNo (dropC 15 B_4) 3] := by kernel_rfl
  rw [e20]
  refine wp_seq (wp_region_list ?_)
  rw [le20]
  refine hand_moveT (x := .tmp 9) (t := 68) (by kernel_rfl) (by kernel_rfl) (by kernel_rfl) ?_
  have p1 := h0.put 68 (h0.ev (.tmp 9) (b := .opq 1) (by kernel_rfl))
  refine hand_moveT (x := .tmp 12) (t := 69) (by kernel_rfl) (by kernel_rfl) (by kernel_rfl) ?_
  have p2 := p1.put 69 (p1.ev (a := a'.put (some 68) (a'.eval (.tmp 9))) (.tmp 12) (b := .int .i64 y0) (by kernel_rfl))
  have q1 := (p2.ev (a := (a'.put (some 68) (a'.eval (.tmp 9))).put (some 69) ((a'.put (some 68) (a'.eval (.tmp 9))).eval (.tmp 12))) (.tmp 68) (b := .opq 1) (by kernel_rfl)).opq_inv
  have q2 := (p2.ev (a := (a'.put (some 68) (a'.eval (.tmp 9))).put (some 69) ((a'.put (some 68) (a'.eval (.tmp 9))).eval (.tmp 12))) (.tmp 69) (b := .int .i64 y0) (by kernel_rfl)).int_inv
  replace q1 := q1.trans (show (@TK G).val 1 = v from by subst hG; rfl)
  -- what was made by hand is as it was
  have hgl : glG G.G w2 (Am.Safe η2 (STK2 y0 y1 y2 y3 y4).m) := h0.mr.gl
  have hkeep : ∀ k, wb.heap.size ≤ k → k < wc.heap.size → Am.Safe η2 (STK2 y0 y1 y2 y3 y4).m k ∧ w2.heap[k]? = wc.heap[k]? := fun k hk hl => by
    obtain ⟨o, ho, hp⟩ := knows_C1 (G := G.G) (by subst hG; rfl) hw k hk hl
    obtain ⟨g1, _, g3⟩ := hgl k o hp
    exact ⟨g1, g3.trans ho.symm⟩
  have hS2 : Kd.S (Kd.slice 95 k95) 60 w2 0 (fun k => wb.heap.size ≤ k ∧ k < wc.heap.size) v L :=
    Kd.S_lower (Kd.S_move (Kd.S_mono (Kd.S_bound hS) (fun k hk => ⟨hk.2.1, hk.2.2.1⟩)) (fun k hk => (hkeep k hk.1 hk.2).2)) (Nat.zero_le _)
  refine hand_callT (ts := #[49, 3]) (f := 34) (xs := #[.tmp 68, .tmp 69]) (t := 70) (by kernel_rfl) (by kernel_rfl) (by kernel_rfl) ⟨Try.f34, by kernel_rfl, by kernel_rfl, by kernel_rfl⟩ (vs := #[v, .int .i64 y0])
    (R := fun u w' => u = .int .i64 z ∧ Below 0 { w2 with heap := #[] } w' ∧ Kept w2 w' (fun k => wb.heap.size ≤ k ∧ k < wc.heap.size)) ?_ ?_ ?_
  · exact map2_of q1 q2
  · exact (laws_markInsSS.calls Nm _ v L y0 z { w2 with heap := #[] } w2 ⟨rfl, rfl, rfl, Nat.zero_le _, fun k hk => absurd hk (Nat.not_lt_zero k)⟩ hS2 hmk).mono fun e w' ⟨he, hb, hk⟩ => ⟨_, he, rfl, hb, hk⟩
  · rintro u w3 ⟨rfl, hb3, hk3⟩
    have r1 : AtR (@TK ⟨⟨hpW w, valW v1 v v0⟩⟩) w eta0 ⟨[], []⟩ ⟨0, 0⟩ w3 _ _ η2 := p2.move (T := @TK G) (T' := @TK ⟨⟨hpW w, valW v1 v v0⟩⟩) (p := fun _ => true) (w' := w3) rfl rfl (fun n _ => by subst hG; rfl) rfl rfl (by kernel_rfl)
      (fun k ho => hk3.2 k (p2.mr.owned_lt ho) (fun hd => (hkeep k hd.1 hd.2).1 ho))
      ⟨hb3.os, hb3.tape, hb3.output, hk3.1, fun k hk hl => hk3.2 k hl (fun hd => by have := hd.1; omega)⟩ ?_ (fun _ h => h)
    case refine_1 =>
      intro k o hk
      obtain ⟨g1, g2, g3⟩ := gl_W (val := valW v1 v v0) p2 k o hk
      have hl : k < w.heap.size := (Array.getElem?_eq_some_iff.1 (show w.heap[k]? = some o from hk)).1
      exact ⟨g1, Nat.lt_of_lt_of_le g2 hk3.1, (hk3.2 k g2 (fun hd => by have := hd.1; omega)).trans g3⟩
    have r2 := r1.put 70 (a := .int .i64 z) (v := .int .i64 z) (.int _ _)
    refine hand_assignT (x := .tmp 70) (t := 12) (by kernel_rfl) (by kernel_rfl) (by kernel_rfl) ?_
    have r3 := r2.put 12 (r2.ev (a := ((a'.put (some 68) (a'.eval (.tmp 9))).put (some 69) ((a'.put (some 68) (a'.eval (.tmp 9))).eval (.tmp 12))).put (some 70) (.int .i64 z)) (.tmp 70) (b := .int .i64 z) (by kernel_rfl))
    have r4 := r3.mask [0, 1, 6, 7, 9, 10, 11, 12]
    exact piece3 ⟨⟨hpW w, valW v1 v v0⟩⟩ (rho1_ok _ lv0 lv1 (knows_W rfl) rfl rfl) hres3 r4 hd2
theorem laws_FnExactSerialAll.walk (P : laws_FnExactSerialAll.Pure) (A0 : Option Addr) (c0 : Nat) (l0 : (List S136)) (A1 : Option Addr) (c1 : Nat) (l1 : (List (List S175))) (w : World) (hr0 : Kd.C k136 w A0 l0.length l0) (hc0 : l0.length ≤ c0) (w0 : (l0.length ≤ 9223372036854775807 ∧ ∀ y ∈ l0, wf136 y)) (hr1 : Kd.C (Kd.slice 175 k175) w A1 l1.length l1) (hc1 : l1.length ≤ c1) (w1 : (l1.length ≤ 9223372036854775807 ∧ ∀ y ∈ l1, (y.length ≤ 9223372036854775807 ∧ ∀ z ∈ y, wf175 z))) :
 Calls Try.prog 4 #[.slice A0 l0.length c0, .slice A1 l1.length c1] w fun e w' => e = .returned (.bool true) ∧ Below w.heap.size w w' := by
  have hp := P l0 l1 w0 w1
  have lv0 := lr136 hr0 hc0
  have lv1 := lr133 hr1 hc1
  obtain ⟨G, hG⟩ : ∃ G : Kn, G = ⟨⟨hpW w, valW (.slice A1 l1.length c1) .nilIface (.slice A0 l0.length c0)⟩⟩ := ⟨_, rfl⟩
  have hC := ctrO_ok (rho1_ok G lv0 lv1 (knows_W (G := G.G) (w := w) (by subst hG; rfl)) (by subst hG; rfl) (by subst hG; rfl)) (ctrN_ok (T := TT) (T' := @TK G) rfl rfl (fun _ _ => trivial) c_law_ok)
  have hrun : run_P1 l0 l1 isTrue (knA (fun (x : List S37 × List Int × List S37) => STK1 x.1 x.2.1 x.2.2) (fun x => callX (fun n => laws_toInsSS.f n l1) fun L => RES2 l0 l1 x.1 x.2.1 x.2.2 L isTrue (fun y0 y1 y2 y3 y4 => callX (fun n => laws_markInsSS.f n L y0) fun z => RES3 l0 l1 z y1 y2 y3 y4 isTrue))) = some () := by
    rw [w_P1]
    refine RES1_mono _ _ (fun x1 x2 x3 h => ?_) hp
    exact knA_of (st := fun (x : List S37 × List Int × List S37) => STK1 x.1 x.2.1 x.2.2) (x := (x1, x2, x3)) h
  refine calls_of_wp (fn := Try.f4) (c := B_4) (by kernel_rfl) (by kernel_rfl) ?_
  have hst : At (@TK G) w eta0 ⟨[], []⟩ ⟨0, 0⟩ w ⟨[.opq 2, .opq 0] ++ unds (135 - 2), ⟨[], []⟩⟩ (#[.slice A0 l0.length c0, .slice A1 l1.length c1] ++ Array.replicate (Try.f4.ntmps - 2) undef) :=
    at_enter (T := @TK G) (nb := ⟨0, 0⟩) (args := [.opq 2, .opq 0]) (vs := #[.slice A0 l0.length c0, .slice A1 l1.length c1]) (n := Try.f4.ntmps) rfl rfl (by rw [hG]; exact gl_start) (vrs_cons (by have := VR.opq (T := @TK G) (S := Am.Safe eta0 (⟨[], []⟩ : Mem tau)) (w := w) (m := ⟨[], []⟩) (η := eta0) 2; rw [show (@TK G).val 2 = .slice A0 l0.length c0 from by subst hG; rfl] at this; exact this) (vrs_cons (by have := VR.opq (T := @TK G) (S := Am.Safe eta0 (⟨[], []⟩ : Mem tau)) (w := w) (m := ⟨[], []⟩) (η := eta0) 0; rw [show (@TK G).val 0 = .slice A1 l1.length c1 from by subst hG; rfl] at this; exact this) vrs_nil))
  refine codeT_sound (E := @E_4 G) (@pqK G) hC (drawA_ok (@pqK G) hC hmix) (kEnd_true (@pqK G) rfl) 8 B_4 _ _ w hrun hst rfl (fun s' a' wb hkn hat2 hd2 => ?_)
  obtain ⟨⟨x1, x2, x3⟩, rfl, hmk⟩ := knA_some hkn
  obtain ⟨N1, L, hL, hres2⟩ := callX_some hmk
  simp only at hL hres2
  obtain ⟨η, h0⟩ := hat2
  replace h0 : AtR (@TK G) w eta0 ⟨[], []⟩ ⟨0, 0⟩ wb (STK1 x1 x2 x3) a'.tmps η := h0
  have e10 : dropC 8 B_4 = Code.seq (.region 10 (headOps (dropC 8 B_4)) false) (dropC 9 B_4) := by kernel_rfl
  have le10 : (headOps (dropC 8 B_4)).toList = [opNo (dropC 8 B_4) 0, opNo (dropC 8 B_4) 1, opNo (dropC 8 B_4) 2] := by kernel_rfl
  rw [e10]
  refine wp_seq (wp_region_list ?_)
  rw [le10]
  refine hand_moveT (x := .tmp 1) (t := 37) (by kernel_rfl) (by kernel_rfl) (by kernel_rfl) ?_
  have p1 := h0.put 37 (h0.ev (.tmp 1) (b := .opq 0) (by kernel_rfl))
  have q1 := (p1.ev (a := a'.put (some 37) (a'.eval (.tmp 1))) (.tmp 37) (b := .opq 0) (by kernel_rfl)).opq_inv
  replace q1 := q1.trans (show (@TK G).val 0 = .slice A1 l1.length c1 from by subst hG; rfl)
  refine hand_callT (ts := #[42]) (f := 28) (xs := #[.tmp 37]) (t := 38) (by kernel_rfl) (by kernel_rfl) (by kernel_rfl) ⟨Try.f28, by kernel_rfl, by kernel_rfl, by kernel_rfl⟩ (vs := #[.slice A1 l1.length c1])
    (R := fun u w' => Kd.S (Kd.slice 95 k95) 60 w' wb.heap.size (fun _ => True) u L ∧ Below wb.heap.size wb w') ?_ ?_ ?_
  · exact map1_of q1
  · exact (laws_toInsSS.calls N1 A1 c1 l1 L wb (Kd.C_below hr1 h0.below) hc1 hL).mono fun e w' ⟨u, he, hS, hb⟩ => ⟨u, he, hS, hb⟩
  · rintro v wc ⟨hS, hb⟩
    have r1 : AtR (@TK ⟨⟨hpC w wb.heap.size wc, valW (.slice A1 l1.length c1) v (.slice A0 l0.length c0)⟩⟩) w eta0 ⟨[], []⟩ ⟨0, 0⟩ wc _ _ η := p1.move (T := @TK G) (T' := @TK ⟨⟨hpC w wb.heap.size wc, valW (.slice A1 l1.length c1) v (.slice A0 l0.length c0)⟩⟩) (p := fun n => n != 1) (w' := wc) rfl rfl
      (fun n hn => by rw [hG]; exact match n, hn with | 0, _ => rfl | 2, _ => rfl | n + 3, _ => rfl) rfl rfl (by kernel_rfl)
      (fun k ho => hb.block k (p1.mr.owned_lt ho)) ⟨hb.os, hb.tape, hb.output, hb.size, fun k hk hl => hb.block k hl⟩ (gl_C (val := valW (.slice A1 l1.length c1) v (.slice A0 l0.length c0)) p1 hb) (fun _ h => h)
    have r2 := r1.put 38 (a := .opq 1) (v := v) (VR.opq (T := @TK ⟨⟨hpC w wb.heap.size wc, valW (.slice A1 l1.length c1) v (.slice A0 l0.length c0)⟩⟩) 1)
    refine hand_assignT (x := .tmp 38) (t := 9) (by kernel_rfl) (by kernel_rfl) (by kernel_rfl) ?_
    have r3 := r2.put 9 (r2.ev (a := (a'.put (some 37) (a'.eval (.tmp 1))).put (some 38) v) (.tmp 38) (b := .opq 1) (by kernel_rfl))
    have r4 := r3.mask [0, 1, 6, 7, 8, 9]
    exact piece2 lv0 lv1 h0.agree.size hS hres2 r4 hd2

end Go.Proofs.Ytkkmhlfpombgfaa.PFnExactSerialAll
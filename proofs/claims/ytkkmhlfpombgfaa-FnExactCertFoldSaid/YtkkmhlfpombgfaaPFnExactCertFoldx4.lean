/- The machine's texts of FnExactCertFold (the law's walk). Conditions: none. -/
import Derived.Test.YtkkmhlfpombgfaaPFnExactCertFoldx3
import Derived.Test.YtkkmhlfpombgfaaAm46
import Derived.Test.YtkkmhlfpombgfaaSWFnExactCertFold
set_option linter.unusedVariables false
set_option linter.unusedSectionVars false
set_option maxRecDepth 100000
set_option maxHeartbeats 4000000
namespace Go.Proofs.Ytkkmhlfpombgfaa.PFnExactCertFold
open Go.RowKit Go.Proofs.YtkkmhlfpombgfaaW.PrintWords Go.Proofs.YtkkmhlfpombgfaaW.PrintLast Go.Proofs.YtkkmhlfpombgfaaW.PrintMore
open Go Go.Proofs Am
def wf103 (x : S103) : Prop := (Lit.int .i64 (x.f0)).wf = true ∧ (Lit.int .i64 (x.f1)).wf = true
def wf196 (x : S196) : Prop := (Lit.int .i64 (x.f0)).wf = true ∧ (Lit.int .i64 (x.f1)).wf = true
def wf198 (x : S198) : Prop := (Lit.int .i64 (x.f0)).wf = true ∧ (Lit.int .i64 (x.f1)).wf = true
def wf107 (x : S107) : Prop := (x.f0.length ≤ 9223372036854775807 ∧ ∀ y ∈ x.f0, wf196 y) ∧ (x.f1.length ≤ 9223372036854775807 ∧ ∀ y ∈ x.f1, wf198 y) ∧ (Lit.int .i64 (x.f2)).wf = true ∧ (Lit.int .i64 (x.f3)).wf = true
def wf109 (x : S109) : Prop := True ∧ wf103 (x.f1) ∧ wf107 (x.f2)
theorem split103_th (cs : List Value) (h : cs.length = 2) : cs = (cs.drop 0).take 1 ++ ((cs.drop 1).take 1) := by
  match cs, h with
  | [c0, c1], _ => rfl
theorem opens103 : YtkkmhlfpombgfaaTh.Opens Try.prog 103 k103 wf103 := by
  intro H enc w fuel cs x h
  obtain ⟨xs, n, _, _, hl, hlen, hf⟩ := DataW.trod_struct Try.underlying103 h
  have hl2 : cs.length = 2 := hl.trans (by kernel_rfl)
  clear h hl
  have h0 : DataW.trod enc Try.prog w 0 (fun _ => true) true n 3 ((cs.drop 0).take (Try.prog.cellsOf 3)) = xs[0]? := hf 0 _ rfl
  rw [show Try.prog.cellsOf 3 = 1 from by kernel_rfl] at h0
  obtain ⟨y0, hy0⟩ := Option.isSome_iff_exists.1 (show (xs[0]?).isSome from by simp [hlen])
  rw [hy0] at h0
  obtain ⟨a0, ka0, wa0⟩ := (YtkkmhlfpombgfaaTh.opens_int Try.underlying3) enc w n _ _ h0
  have h1 : DataW.trod enc Try.prog w 0 (fun _ => true) true n 3 ((cs.drop 1).take (Try.prog.cellsOf 3)) = xs[1]? := hf 1 _ rfl
  rw [show Try.prog.cellsOf 3 = 1 from by kernel_rfl] at h1
  obtain ⟨y1, hy1⟩ := Option.isSome_iff_exists.1 (show (xs[1]?).isSome from by simp [hlen])
  rw [hy1] at h1
  obtain ⟨a1, ka1, wa1⟩ := (YtkkmhlfpombgfaaTh.opens_int Try.underlying3) enc w n _ _ h1
  clear hf
  refine ⟨⟨a0, a1⟩, ?_, ⟨wa0, wa1⟩⟩
  have e_ : cs = (cs.drop 0).take 1 ++ ((cs.drop 1).take 1) := by
    exact split103_th cs hl2
  rw [e_]
  exact ⟨_, _, rfl, ka0, ka1⟩
theorem split196_th (cs : List Value) (h : cs.length = 2) : cs = (cs.drop 0).take 1 ++ ((cs.drop 1).take 1) := by
  match cs, h with
  | [c0, c1], _ => rfl
theorem opens196 : YtkkmhlfpombgfaaTh.Opens Try.prog 196 k196 wf196 := by
  intro H enc w fuel cs x h
  obtain ⟨xs, n, _, _, hl, hlen, hf⟩ := DataW.trod_struct Try.underlying196 h
  have hl2 : cs.length = 2 := hl.trans (by kernel_rfl)
  clear h hl
  have h0 : DataW.trod enc Try.prog w 0 (fun _ => true) true n 3 ((cs.drop 0).take (Try.prog.cellsOf 3)) = xs[0]? := hf 0 _ rfl
  rw [show Try.prog.cellsOf 3 = 1 from by kernel_rfl] at h0
  obtain ⟨y0, hy0⟩ := Option.isSome_iff_exists.1 (show (xs[0]?).isSome from by simp [hlen])
  rw [hy0] at h0
  obtain ⟨a0, ka0, wa0⟩ := (YtkkmhlfpombgfaaTh.opens_int Try.underlying3) enc w n _ _ h0
  have h1 : DataW.trod enc Try.prog w 0 (fun _ => true) true n 3 ((cs.drop 1).take (Try.prog.cellsOf 3)) = xs[1]? := hf 1 _ rfl
  rw [show Try.prog.cellsOf 3 = 1 from by kernel_rfl] at h1
  obtain ⟨y1, hy1⟩ := Option.isSome_iff_exists.1 (show (xs[1]?).isSome from by simp [hlen])
  rw [hy1] at h1
  obtain ⟨a1, ka1, wa1⟩ := (YtkkmhlfpombgfaaTh.opens_int Try.underlying3) enc w n _ _ h1
  clear hf
  refine ⟨⟨a0, a1⟩, ?_, ⟨wa0, wa1⟩⟩
  have e_ : cs = (cs.drop 0).take 1 ++ ((cs.drop 1).take 1) := by
    exact split196_th cs hl2
  rw [e_]
  exact ⟨_, _, rfl, ka0, ka1⟩
theorem split198_th (cs : List Value) (h : cs.length = 2) : cs = (cs.drop 0).take 1 ++ ((cs.drop 1).take 1) := by
  match cs, h with
  | [c0, c1], _ => rfl
theorem opens198 : YtkkmhlfpombgfaaTh.Opens Try.prog 198 k198 wf198 := by
  intro H enc w fuel cs x h
  obtain ⟨xs, n, _, _, hl, hlen, hf⟩ := DataW.trod_struct Try.underlying198 h
  have hl2 : cs.length = 2 := hl.trans (by kernel_rfl)
  clear h hl
  have h0 : DataW.trod enc Try.prog w 0 (fun _ => true) true n 3 ((cs.drop 0).take (Try.prog.cellsOf 3)) = xs[0]? := hf 0 _ rfl
  rw [show Try.prog.cellsOf 3 = 1 from by kernel_rfl] at h0
  obtain ⟨y0, hy0⟩ := Option.isSome_iff_exists.1 (show (xs[0]?).isSome from by simp [hlen])
  rw [hy0] at h0
  obtain ⟨a0, ka0, wa0⟩ := (YtkkmhlfpombgfaaTh.opens_int Try.underlying3) enc w n _ _ h0
  have h1 : DataW.trod enc Try.prog w 0 (fun _ => true) true n 3 ((cs.drop 1).take (Try.prog.cellsOf 3)) = xs[1]? := hf 1 _ rfl
  rw [show Try.prog.cellsOf 3 = 1 from by kernel_rfl] at h1
  obtain ⟨y1, hy1⟩ := Option.isSome_iff_exists.1 (show (xs[1]?).isSome from by simp [hlen])
  rw [hy1] at h1
  obtain ⟨a1, ka1, wa1⟩ := (YtkkmhlfpombgfaaTh.opens_int Try.underlying3) enc w n _ _ h1
  clear hf
  refine ⟨⟨a0, a1⟩, ?_, ⟨wa0, wa1⟩⟩
  have e_ : cs = (cs.drop 0).take 1 ++ ((cs.drop 1).take 1) := by
    exact split198_th cs hl2
  rw [e_]
  exact ⟨_, _, rfl, ka0, ka1⟩
theorem split107_th (cs : List Value) (h : cs.length = 4) : cs = (cs.drop 0).take 1 ++ ((cs.drop 1).take 1 ++ ((cs.drop 2).take 1 ++ ((cs.drop 3).take 1))) := by
  match cs, h with
  | [c0, c1, c2, c3], _ => rfl
theorem opens107 : YtkkmhlfpombgfaaTh.Opens Try.prog 107 k107 wf107 := by
  intro H enc w fuel cs x h
  obtain ⟨xs, n, _, _, hl, hlen, hf⟩ := DataW.trod_struct Try.underlying107 h
  have hl2 : cs.length = 4 := hl.trans (by kernel_rfl)
  clear h hl
  have h0 : DataW.trod enc Try.prog w 0 (fun _ => true) true n 104 ((cs.drop 0).take (Try.prog.cellsOf 104)) = xs[0]? := hf 0 _ rfl
  rw [show Try.prog.cellsOf 104 = 1 from by kernel_rfl] at h0
  obtain ⟨y0, hy0⟩ := Option.isSome_iff_exists.1 (show (xs[0]?).isSome from by simp [hlen])
  rw [hy0] at h0
  obtain ⟨a0, ka0, wa0⟩ := (YtkkmhlfpombgfaaTh.opens_slice Try.underlying104 (by kernel_rfl) opens196) enc w n _ _ h0
  have h1 : DataW.trod enc Try.prog w 0 (fun _ => true) true n 105 ((cs.drop 1).take (Try.prog.cellsOf 105)) = xs[1]? := hf 1 _ rfl
  rw [show Try.prog.cellsOf 105 = 1 from by kernel_rfl] at h1
  obtain ⟨y1, hy1⟩ := Option.isSome_iff_exists.1 (show (xs[1]?).isSome from by simp [hlen])
  rw [hy1] at h1
  obtain ⟨a1, ka1, wa1⟩ := (YtkkmhlfpombgfaaTh.opens_slice Try.underlying105 (by kernel_rfl) opens198) enc w n _ _ h1
  have h2 : DataW.trod enc Try.prog w 0 (fun _ => true) true n 3 ((cs.drop 2).take (Try.prog.cellsOf 3)) = xs[2]? := hf 2 _ rfl
  rw [show Try.prog.cellsOf 3 = 1 from by kernel_rfl] at h2
  obtain ⟨y2, hy2⟩ := Option.isSome_iff_exists.1 (show (xs[2]?).isSome from by simp [hlen])
  rw [hy2] at h2
  obtain ⟨a2, ka2, wa2⟩ := (YtkkmhlfpombgfaaTh.opens_int Try.underlying3) enc w n _ _ h2
  have h3 : DataW.trod enc Try.prog w 0 (fun _ => true) true n 3 ((cs.drop 3).take (Try.prog.cellsOf 3)) = xs[3]? := hf 3 _ rfl
  rw [show Try.prog.cellsOf 3 = 1 from by kernel_rfl] at h3
  obtain ⟨y3, hy3⟩ := Option.isSome_iff_exists.1 (show (xs[3]?).isSome from by simp [hlen])
  rw [hy3] at h3
  obtain ⟨a3, ka3, wa3⟩ := (YtkkmhlfpombgfaaTh.opens_int Try.underlying3) enc w n _ _ h3
  clear hf
  refine ⟨⟨a0, a1, a2, a3⟩, ?_, ⟨wa0, wa1, wa2, wa3⟩⟩
  have e_ : cs = (cs.drop 0).take 1 ++ ((cs.drop 1).take 1 ++ ((cs.drop 2).take 1 ++ ((cs.drop 3).take 1))) := by
    exact split107_th cs hl2
  rw [e_]
  exact ⟨_, _, rfl, ka0, ⟨_, _, rfl, ka1, ⟨_, _, rfl, ka2, ka3⟩⟩⟩
theorem split109_th (cs : List Value) (h : cs.length = 7) : cs = (cs.drop 0).take 1 ++ ((cs.drop 1).take 2 ++ ((cs.drop 3).take 4)) := by
  match cs, h with
  | [c0, c1, c2, c3, c4, c5, c6], _ => rfl
theorem opens109 : YtkkmhlfpombgfaaTh.Opens Try.prog 109 k109 wf109 := by
  intro H enc w fuel cs x h
  obtain ⟨xs, n, _, _, hl, hlen, hf⟩ := DataW.trod_struct Try.underlying109 h
  have hl2 : cs.length = 7 := hl.trans (by kernel_rfl)
  clear h hl
  have h0 : DataW.trod enc Try.prog w 0 (fun _ => true) true n 4 ((cs.drop 0).take (Try.prog.cellsOf 4)) = xs[0]? := hf 0 _ rfl
  rw [show Try.prog.cellsOf 4 = 1 from by kernel_rfl] at h0
  obtain ⟨y0, hy0⟩ := Option.isSome_iff_exists.1 (show (xs[0]?).isSome from by simp [hlen])
  rw [hy0] at h0
  obtain ⟨a0, ka0, wa0⟩ := (YtkkmhlfpombgfaaTh.opens_bool Try.underlying4) enc w n _ _ h0
  have h1 : DataW.trod enc Try.prog w 0 (fun _ => true) true n 103 ((cs.drop 1).take (Try.prog.cellsOf 103)) = xs[1]? := hf 1 _ rfl
  rw [show Try.prog.cellsOf 103 = 2 from by kernel_rfl] at h1
  obtain ⟨y1, hy1⟩ := Option.isSome_iff_exists.1 (show (xs[1]?).isSome from by simp [hlen])
  rw [hy1] at h1
  obtain ⟨a1, ka1, wa1⟩ := opens103 enc w n _ _ h1
  have h2 : DataW.trod enc Try.prog w 0 (fun _ => true) true n 107 ((cs.drop 3).take (Try.prog.cellsOf 107)) = xs[2]? := hf 2 _ rfl
  rw [show Try.prog.cellsOf 107 = 4 from by kernel_rfl] at h2
  obtain ⟨y2, hy2⟩ := Option.isSome_iff_exists.1 (show (xs[2]?).isSome from by simp [hlen])
  rw [hy2] at h2
  obtain ⟨a2, ka2, wa2⟩ := opens107 enc w n _ _ h2
  clear hf
  refine ⟨⟨a0, a1, a2⟩, ?_, ⟨wa0, wa1, wa2⟩⟩
  have e_ : cs = (cs.drop 0).take 1 ++ ((cs.drop 1).take 2 ++ ((cs.drop 3).take 4)) := by
    exact split109_th cs hl2
  rw [e_]
  exact ⟨_, _, rfl, ka0, ⟨_, _, rfl, ka1, ka2⟩⟩
theorem lr_pt {w : World} {lf lf' : Lf tau} {lt lt' : LT} {v v' : Value} (h1 : some lf' = some lf) (h2 : some lt' = some lt) (h3 : some v' = some v) (h : LR TT (Am.Safe eta0 (⟨[], []⟩ : Mem tau)) w lt' lf' v') : LR TT (Am.Safe eta0 (⟨[], []⟩ : Mem tau)) w lt lf v := by cases h1; cases h2; cases h3; exact h
theorem lr196 {w : World} {A : Option Addr} {c : Nat} {l : List S196} (h : Kd.C k196 w A l.length l) (hc : l.length ≤ c) : LR TT (Am.Safe eta0 (⟨[], []⟩ : Mem tau)) w (.sl 196) (.l 196 (l : List S196)) (.slice A l.length c) :=
 lr_of (τ := tau) (T := TT) (e := 196) (te := ⟨[.int .i64, .int .i64], .st [(0, 3), (1, 3)]⟩) rfl (fun k => safe0 k) (rows := (l : List S196)) hc (by decide) (fun j hj => by
  replace hj : j < l.length := hj
  obtain ⟨ad, cs, e1, _, hK, hc0⟩ := Kd.C_get h z196 (j : Int) (Int.natCast_nonneg j) (Int.ofNat_lt.2 hj)
  have e0 : List.getD l ((j : Int)).toNat z196 = l[j] := by rw [Int.toNat_natCast, List.getD_eq_getElem?_getD, List.getElem?_eq_getElem hj]; rfl
  rw [e0] at hK
  obtain rfl := k196_open hK
  refine ⟨ad, _, e1, rfl, fun o u hu => hc0 o u hu, rfl, fun o lf lt v h1 h2 h3 => ?_⟩
  rcases o with _ | _ | o
  · exact lr_pt h1 h2 h3 (.int _ _)
  · exact lr_pt h1 h2 h3 (.int _ _)
  · simp at h3)
theorem lr198 {w : World} {A : Option Addr} {c : Nat} {l : List S198} (h : Kd.C k198 w A l.length l) (hc : l.length ≤ c) : LR TT (Am.Safe eta0 (⟨[], []⟩ : Mem tau)) w (.sl 198) (.l 198 (l : List S198)) (.slice A l.length c) :=
 lr_of (τ := tau) (T := TT) (e := 198) (te := ⟨[.int .i64, .int .i64], .st [(0, 3), (1, 3)]⟩) rfl (fun k => safe0 k) (rows := (l : List S198)) hc (by decide) (fun j hj => by
  replace hj : j < l.length := hj
  obtain ⟨ad, cs, e1, _, hK, hc0⟩ := Kd.C_get h z198 (j : Int) (Int.natCast_nonneg j) (Int.ofNat_lt.2 hj)
  have e0 : List.getD l ((j : Int)).toNat z198 = l[j] := by rw [Int.toNat_natCast, List.getD_eq_getElem?_getD, List.getElem?_eq_getElem hj]; rfl
  rw [e0] at hK
  obtain rfl := k198_open hK
  refine ⟨ad, _, e1, rfl, fun o u hu => hc0 o u hu, rfl, fun o lf lt v h1 h2 h3 => ?_⟩
  rcases o with _ | _ | o
  · exact lr_pt h1 h2 h3 (.int _ _)
  · exact lr_pt h1 h2 h3 (.int _ _)
  · simp at h3)
theorem lr109 {w : World} {A : Option Addr} {c : Nat} {l : List S109} (h : Kd.C k109 w A l.length l) (hc : l.length ≤ c) : LR TT (Am.Safe eta0 (⟨[], []⟩ : Mem tau)) w (.sl 109) (.l 109 (l : List S109)) (.slice A l.length c) :=
 lr_of (τ := tau) (T := TT) (e := 109) (te := ⟨[.bool, .int .i64, .int .i64, .sl 196, .sl 198, .int .i64, .int .i64], .st [(0, 4), (1, 103), (3, 107)]⟩) rfl (fun k => safe0 k) (rows := (l : List S109)) hc (by decide) (fun j hj => by
  replace hj : j < l.length := hj
  obtain ⟨ad, cs, e1, _, hK, hc0⟩ := Kd.C_get h z109 (j : Int) (Int.natCast_nonneg j) (Int.ofNat_lt.2 hj)
  have e0 : List.getD l ((j : Int)).toNat z109 = l[j] := by rw [Int.toNat_natCast, List.getD_eq_getElem?_getD, List.getElem?_eq_getElem hj]; rfl
  rw [e0] at hK
  obtain ⟨A3, c3, A4, c4, rfl, l3, g3, l4, g4⟩ := k109_open hK
  refine ⟨ad, _, e1, rfl, fun o u hu => hc0 o u hu, rfl, fun o lf lt v h1 h2 h3 => ?_⟩
  rcases o with _ | _ | _ | _ | _ | _ | _ | o
  · exact lr_pt h1 h2 h3 (.bool _)
  · exact lr_pt h1 h2 h3 (.int _ _)
  · exact lr_pt h1 h2 h3 (.int _ _)
  · exact lr_pt h1 h2 h3 (lr196 g3 l3)
  · exact lr_pt h1 h2 h3 (lr198 g4 l4)
  · exact lr_pt h1 h2 h3 (.int _ _)
  · exact lr_pt h1 h2 h3 (.int _ _)
  · simp at h3)
theorem rr39 {w : World} {base : Nat} {ok : Nat → Prop} {v : Value} {l : List S39} {S : Nat → Prop} (h : Kd.R k39 39 w base ok v l) (hS : ∀ k, base ≤ k → S k) : LR TT S w (.sl 39) (.l 39 (l : List S39)) v := by
  obtain ⟨A, c, rfl⟩ := Kd.R_slice h
  refine lr_of2 (τ := tau) (T := TT) (e := 39) (te := ⟨[.int .i64, .int .i64], .st [(0, 3), (1, 3)]⟩) rfl (fun ad e_ => ?_) (rows := (l : List S39)) (Kd.R_reads' h).2.1 (by decide) (fun j hj => ?_)
  · subst e_
    obtain ⟨g, rfl⟩ := Kd.R_head h
    exact hS _ (Kd.R_base h _ (by simp [Value.ownBlock]))
  · replace hj : j < l.length := hj
    obtain ⟨g, cap, e_, _⟩ := Kd.R_form h (by omega)
    cases e_
    obtain ⟨cs, hcl, hM, hcc⟩ := Kd.R_get h z39 (j : Int) (Int.natCast_nonneg j) (Int.ofNat_lt.2 hj)
    have e0 : List.getD l ((j : Int)).toNat z39 = l[j] := by rw [Int.toNat_natCast, List.getD_eq_getElem?_getD, List.getElem?_eq_getElem hj]; rfl
    rw [e0] at hM
    obtain rfl := k39_openM hM
    refine ⟨_, _, rfl, rfl, fun o u hu => hcc o u hu, rfl, fun o lf lt v h1 h2 h3 => ?_⟩
    rcases o with _ | _ | o
    · exact lr_pt2 h1 h2 h3 (.int _ _)
    · exact lr_pt2 h1 h2 h3 (.int _ _)
    · simp at h3
theorem rr82 {w : World} {base : Nat} {ok : Nat → Prop} {v : Value} {l : List S82} {S : Nat → Prop} (h : Kd.R k82 82 w base ok v l) (hS : ∀ k, base ≤ k → S k) : LR TT S w (.sl 82) (.l 82 (l : List S82)) v := by
  obtain ⟨A, c, rfl⟩ := Kd.R_slice h
  refine lr_of2 (τ := tau) (T := TT) (e := 82) (te := ⟨[.int .i64, .int .i64], .st [(0, 3), (1, 3)]⟩) rfl (fun ad e_ => ?_) (rows := (l : List S82)) (Kd.R_reads' h).2.1 (by decide) (fun j hj => ?_)
  · subst e_
    obtain ⟨g, rfl⟩ := Kd.R_head h
    exact hS _ (Kd.R_base h _ (by simp [Value.ownBlock]))
  · replace hj : j < l.length := hj
    obtain ⟨g, cap, e_, _⟩ := Kd.R_form h (by omega)
    cases e_
    obtain ⟨cs, hcl, hM, hcc⟩ := Kd.R_get h z82 (j : Int) (Int.natCast_nonneg j) (Int.ofNat_lt.2 hj)
    have e0 : List.getD l ((j : Int)).toNat z82 = l[j] := by rw [Int.toNat_natCast, List.getD_eq_getElem?_getD, List.getElem?_eq_getElem hj]; rfl
    rw [e0] at hM
    obtain rfl := k82_openM hM
    refine ⟨_, _, rfl, rfl, fun o u hu => hcc o u hu, rfl, fun o lf lt v h1 h2 h3 => ?_⟩
    rcases o with _ | _ | o
    · exact lr_pt2 h1 h2 h3 (.int _ _)
    · exact lr_pt2 h1 h2 h3 (.int _ _)
    · simp at h3
theorem rr77 {w : World} {base : Nat} {ok : Nat → Prop} {v : Value} {l : List S77} {S : Nat → Prop} (h : Kd.R k77 77 w base ok v l) (hS : ∀ k, base ≤ k → S k) : LR TT S w (.sl 77) (.l 77 (l : List S77)) v := by
  obtain ⟨A, c, rfl⟩ := Kd.R_slice h
  refine lr_of2 (τ := tau) (T := TT) (e := 77) (te := ⟨[.bool, .int .i64, .int .i64, .sl 39, .sl 82, .int .i64, .int .i64], .st [(0, 4), (1, 75), (3, 26)]⟩) rfl (fun ad e_ => ?_) (rows := (l : List S77)) (Kd.R_reads' h).2.1 (by decide) (fun j hj => ?_)
  · subst e_
    obtain ⟨g, rfl⟩ := Kd.R_head h
    exact hS _ (Kd.R_base h _ (by simp [Value.ownBlock]))
  · replace hj : j < l.length := hj
    obtain ⟨g, cap, e_, _⟩ := Kd.R_form h (by omega)
    cases e_
    obtain ⟨cs, hcl, hM, hcc⟩ := Kd.R_get h z77 (j : Int) (Int.natCast_nonneg j) (Int.ofNat_lt.2 hj)
    have e0 : List.getD l ((j : Int)).toNat z77 = l[j] := by rw [Int.toNat_natCast, List.getD_eq_getElem?_getD, List.getElem?_eq_getElem hj]; rfl
    rw [e0] at hM
    obtain ⟨u3, u4, rfl, g3, g4⟩ := k77_openM hM
    refine ⟨_, _, rfl, rfl, fun o u hu => hcc o u hu, rfl, fun o lf lt v h1 h2 h3 => ?_⟩
    rcases o with _ | _ | _ | _ | _ | _ | _ | o
    · exact lr_pt2 h1 h2 h3 (.bool _)
    · exact lr_pt2 h1 h2 h3 (.int _ _)
    · exact lr_pt2 h1 h2 h3 (.int _ _)
    · exact lr_pt2 h1 h2 h3 (rr39 g3 hS)
    · exact lr_pt2 h1 h2 h3 (rr82 g4 hS)
    · exact lr_pt2 h1 h2 h3 (.int _ _)
    · exact lr_pt2 h1 h2 h3 (.int _ _)
    · simp at h3
theorem elAll (e : TypeId) (he : TT.el e = true) : ElOk TT e := by
 have h := memN_iff.1 he
 simp only [List.mem_cons, List.not_mem_nil, or_false] at h
 rcases h with rfl | rfl | rfl | rfl | rfl | rfl | rfl | rfl | rfl
 · exact el_3
 · exact el_37
 · exact el_39
 · exact el_77
 · exact el_82
 · exact el_84
 · exact el_109
 · exact el_196
 · exact el_198
section
variable [Kn]
def TK : Tab tau := { TT with val := Kn.G.val, gl := glG Kn.G, glN := glG_next Kn.G }
theorem pqK : PQ Try.prog TK byT := pq_of asked rfl (fun e he => show ElOk TT e from elAll e he)
def E_15 : Env tau := { mkE [(0, [(0, .one (.own 109))]), (1, [(0, .one (.own 109))]), (2, [(0, .one (.own 109)), (3, .one .any)]), (3, [(0, .one (.own 109)), (3, .one .any)]), (4, []), (5, [(0, .one (.own 109))]), (6, [(0, .one (.own 109)), (4, .one .any)]), (7, [(0, .one (.own 109)), (4, .one .any), (5, .one (.own 77))]), (8, [(0, .one (.own 109)), (4, .one .any), (5, .one (.own 77)), (6, .one .any)]), (9, []), (10, [(0, .one (.own 109)), (4, .one .any), (5, .one (.own 77)), (6, .one .any)]), (11, []), (12, [(0, .one (.own 109)), (4, .one .any), (5, .one (.own 77)), (6, .one .any)]), (13, [(0, .one (.own 109)), (4, .one .any), (5, .one (.own 77)), (6, .one .any), (7, .one .any)]), (14, [(0, .one (.own 109)), (4, .one .any), (6, .one .any), (7, .one .any)]), (15, []), (16, [(0, .one (.own 109)), (4, .one .any), (6, .one .any)]), (17, [(0, .one (.own 109)), (4, .one .any), (6, .one .any), (8, .one .any)]), (18, [(0, .one (.own 109)), (4, .one .any), (6, .one .any), (8, .one .any)]), (19, [(0, .one (.own 109)), (4, .one .any), (6, .one .any), (8, .one .any), (9, .one .any)]), (20, [(0, .one (.own 109)), (4, .one .any), (6, .one .any), (8, .one .any), (9, .one .any)]), (21, []), (22, [(0, .one (.own 109)), (4, .one .any), (6, .one .any), (8, .one .any), (9, .one .any)]), (23, []), (24, [(0, .one (.own 109)), (4, .one .any), (6, .one .any), (8, .one .any)]), (25, [(4, .one .any), (6, .one .any), (8, .one .any), (10, .one .any)]), (26, []), (27, [(6, .one .any), (8, .one .any)]), (28, [(6, .one .any), (8, .one .any), (9, .one .any)]), (29, [(8, .one .any), (9, .one .any)]), (30, []), (31, [(8, .one .any), (9, .one .any)]), (32, []), (33, [])] [.one .any] ⟨0, 0⟩ with T := TK }
omit [Kn] in
theorem c_law_ok : CtrOk Try.prog TT pnT (ctrS 143 c_143 C_143) := ctrS_ok okC_143 okc_143
noncomputable def C_15 : Ctr tau Unit := ctrN (ctrS 143 c_143 C_143)
noncomputable def B_15 : Code := Try.f15.body.getD .skip
def rho1 (l0 : List S109) : Nat → AV tau | 0 => .sl 109 l0 | _ => .bad
def rho2 (l0 : List S109) (L : List S77) : Nat → AV tau | 0 => .sl 109 l0 | 1 => .sl 77 L | _ => .bad
noncomputable def run_P1 (l0 : List S109) (k : AV tau → Mem tau → Option Unit) (kn : St tau → Option Unit) : Option Unit := codeT E_15 (ctrO (rho1 l0) C_15) (drawA E_15 (ctrO (rho1 l0) C_15)) 5 B_15 kn (kEnd E_15 Try.f15 k) ⟨[.opq 0] ++ unds 68, ⟨[], []⟩⟩
def STK1 (x0 : Int) (x1 : (List S37)) (x2 : (List S84)) : St tau := ⟨tmL 69 0 [(0, .opq 0), (4, .ptr 0 0)], ⟨[some (69, [.int .i64 x0, .own 0 0, .own 1 0])], [some ⟨37, x1, 0⟩, some ⟨84, x2, 0⟩]⟩⟩
noncomputable def RES1 (l0 : List S109) (k : AV tau → Mem tau → Option Unit) (g : Int → (List S37) → (List S84) → Option Unit) : Option Unit := callX (fun n => laws_szEntryS.f n l0 (1048576 : Int)) fun t0 => brA (decide (t0 < (0 : Int))) (k (.bool true) ⟨[], []⟩) (callX (fun n => laws_toEntryS.f n l0) fun t1 => callX (fun n => spec_CertFold.f n t1) fun t2 => g t2.1 t2.2.1 t2.2.2)
theorem w_P1 (l0 : List S109) (k : AV tau → Mem tau → Option Unit) (kn : St tau → Option Unit) : run_P1 l0 k kn = RES1 l0 k (fun x0_ x1_ x2_ => kn (STK1 x0_ x1_ x2_)) := by kernel_rfl
theorem RES1_mono (l0 : List S109) {k : AV tau → Mem tau → Option Unit} {g g' : Int → (List S37) → (List S84) → Option Unit} (hg : ∀ x0_ x1_ x2_, g x0_ x1_ x2_ = some () → g' x0_ x1_ x2_ = some ()) (h : RES1 l0 k g = some ()) : RES1 l0 k g' = some () := by
  unfold RES1 at h ⊢
  repeat' first | exact hg _ _ _ h | exact h | refine callX_mono (fun _ h => ?_) h | refine brA_mono (fun h => ?_) (fun h => ?_) h
noncomputable def run_P2 (l0 : List S109) (x0 : Int) (x1 : List S37) (x2 : List S84) (L : List S77) (k : AV tau → Mem tau → Option Unit) (kn : St tau → Option Unit) : Option Unit := codeT E_15 (ctrO (rho2 l0 L) C_15) (drawA E_15 (ctrO (rho2 l0 L) C_15)) 4 (dropC 6 B_15) kn (kEnd E_15 Try.f15 k) ⟨tmL 69 0 [(0, .opq 0), (4, .ptr 0 0), (5, .opq 1)], ⟨[some (69, [.int .i64 x0, .own 0 0, .own 1 0])], [some ⟨37, x1, 0⟩, some ⟨84, x2, 0⟩]⟩⟩
def STK2 (x0 : Int) (x1 : Int) (x2 : Int) (x3 : (List S37)) (x4 : (List S84)) (x5 : (List S37)) (x6 : (List S84)) : St tau := ⟨tmL 69 0 [(0, .opq 0), (4, .ptr 0 0), (5, .opq 1), (6, .ptr 1 0), (7, .int .i64 x0)], ⟨[some (69, [.int .i64 x1, .own 0 0, .own 1 0]), some (69, [.int .i64 x2, .own 2 0, .own 3 0])], [some ⟨37, x3, 0⟩, some ⟨84, x4, 0⟩, some ⟨37, x5, 0⟩, some ⟨84, x6, 0⟩]⟩⟩
noncomputable def RES2 (l0 : List S109) (x0 : Int) (x1 : List S37) (x2 : List S84) (L : List S77) (k : AV tau → Mem tau → Option Unit) (g : Int → Int → Int → (List S37) → (List S84) → (List S37) → (List S84) → Option Unit) : Option Unit := callX (fun n => impl_CertFold.f n L) fun t0 => callX (fun n => laws_eqState.f n t0.1 t0.2.1 t0.2.2 x0 x1 x2) fun t1 => brA (!t1) (k (.bool false) ⟨[], []⟩) (callX (fun n => laws_toEntryS.f n l0) fun t2 => callX (fun n => laws_eqEntryS.f n L t2) fun t3 => brA (!t3) (k (.bool false) ⟨[], []⟩) (g (1 : Int) x0 t0.1 x1 x2 t0.2.1 t0.2.2))
theorem w_P2 (l0 : List S109) (x0 : Int) (x1 : List S37) (x2 : List S84) (L : List S77) (k : AV tau → Mem tau → Option Unit) (kn : St tau → Option Unit) : run_P2 l0 x0 x1 x2 L k kn = RES2 l0 x0 x1 x2 L k (fun x0_ x1_ x2_ x3_ x4_ x5_ x6_ => kn (STK2 x0_ x1_ x2_ x3_ x4_ x5_ x6_)) := by kernel_rfl
theorem RES2_mono (l0 : List S109) (x0 : Int) (x1 : List S37) (x2 : List S84) (L : List S77) {k : AV tau → Mem tau → Option Unit} {g g' : Int → Int → Int → (List S37) → (List S84) → (List S37) → (List S84) → Option Unit} (hg : ∀ x0_ x1_ x2_ x3_ x4_ x5_ x6_, g x0_ x1_ x2_ x3_ x4_ x5_ x6_ = some () → g' x0_ x1_ x2_ x3_ x4_ x5_ x6_ = some ()) (h : RES2 l0 x0 x1 x2 L k g = some ()) : RES2 l0 x0 x1 x2 L k g' = some () := by
  unfold RES2 at h ⊢
  repeat' first | exact hg _ _ _ _ _ _ _ h | exact h | refine callX_mono (fun _ h => ?_) h | refine brA_mono (fun h => ?_) (fun h => ?_) h
noncomputable def run_P3 (l0 : List S109) (z : Int) (x1 : Int) (x2 : Int) (x3 : List S37) (x4 : List S84) (x5 : List S37) (x6 : List S84) (k : AV tau → Mem tau → Option Unit) (kn : St tau → Option Unit) : Option Unit := codeA E_15 (ctrO (rho1 l0) C_15) (drawA E_15 (ctrO (rho1 l0) C_15)) (dropC 11 B_15) (kEnd E_15 Try.f15 k) ⟨tmL 69 0 [(0, .opq 0), (4, .ptr 0 0), (5, .opq 1), (6, .ptr 1 0), (7, .int .i64 z)], ⟨[some (69, [.int .i64 x1, .own 0 0, .own 1 0]), some (69, [.int .i64 x2, .own 2 0, .own 3 0])], [some ⟨37, x3, 0⟩, some ⟨84, x4, 0⟩, some ⟨37, x5, 0⟩, some ⟨84, x6, 0⟩]⟩⟩
noncomputable def RES3 (l0 : List S109) (z : Int) (x1 : Int) (x2 : Int) (x3 : List S37) (x4 : List S84) (x5 : List S37) (x6 : List S84) (k : AV tau → Mem tau → Option Unit) : Option Unit := brA (decide (z < (0 : Int))) (k (.bool false) ⟨[], []⟩) (callX (fun n => laws_eqState.f n x2 x5 x6 x1 x3 x4) fun t0 => brA (!t0) (k (.bool false) ⟨[], []⟩) (callX (fun n => laws_markState.f n x2 x5 x6 (1 : Int)) fun t1 => callX (fun n => laws_heldState.f n x2 t1.2.1 t1.2.2 (1 : Int)) fun t2 => brA (decide (t2 < (0 : Int))) (k (.bool false) ⟨[], []⟩) (brA (!(decide (t2 = t1.1))) (k (.bool false) ⟨[], []⟩) (callX (fun n => laws_toEntryS.f n l0) fun t3 => callX (fun n => impl_CertFold.f n t3) fun t4 => callX (fun n => laws_eqState.f n t4.1 t4.2.1 t4.2.2 x1 x3 x4) fun t5 => brA (!t5) (k (.bool false) ⟨[], []⟩) (callX (fun n => laws_heldState.f n x2 t1.2.1 t1.2.2 (1 : Int)) fun t6 => brA (decide (t6 < (0 : Int))) (k (.bool false) ⟨[], []⟩) (brA (!(decide (t6 = t1.1))) (k (.bool false) ⟨[], []⟩) (k (.bool true) ⟨[], []⟩)))))))
theorem w_P3 (l0 : List S109) (z : Int) (x1 : Int) (x2 : Int) (x3 : List S37) (x4 : List S84) (x5 : List S37) (x6 : List S84) (k : AV tau → Mem tau → Option Unit) (kn : St tau → Option Unit) : run_P3 l0 z x1 x2 x3 x4 x5 x6 k kn = RES3 l0 z x1 x2 x3 x4 x5 x6 k := by kernel_rfl
end
def laws_FnExactCertFold.Pure : Prop := ∀ (l0 : (List S109)), (l0.length ≤ 9223372036854775807 ∧ ∀ y ∈ l0, wf109 y) →
  RES1 l0 isTrue (fun x0 x1 x2 => callX (fun n => laws_toEntryS.f n l0) fun L => brA (decide (L.length ≤ 1000000000)) (RES2 l0 x0 x1 x2 L isTrue (fun y0 y1 y2 y3 y4 y5 y6 => callX (fun n => laws_markEntryS.f n L y0) fun z => RES3 l0 z y1 y2 y3 y4 y5 y6 isTrue)) none) = some ()
/-- What is read of the argument where it is known. -/
theorem rho1_ok (G : Kn) {l0 : List S109} {w : World} {v0 : Value} (lv0 : LR TT (Am.Safe eta0 (⟨[], []⟩ : Mem tau)) w (.sl 109) (.l 109 (l0 : List S109)) v0)
    (hG : ∀ k, k < w.heap.size → ∃ o, w.heap[k]? = some o ∧ G.G.hp k = some o) (h0 : G.G.val 0 = v0) : ∀ (w' : World) (η : Eta) (m : Mem tau), MR (@TK G) w' η m → ∀ n, VR (@TK G) (Am.Safe η m) w' m η (rho1 l0 n) ((@TK G).val n) := by
  intro w' η m hm n
  match n with
  | 0 => show VR (@TK G) (Am.Safe η m) w' m η (.sl 109 (l0 : List S109)) (G.G.val 0); rw [h0]; exact .sl _ _ _ ((LR.tab (T := TT) (T' := @TK G) rfl rfl lv0).known (G := G.G) (fun k _ hk => hG k hk) hm.gl)
  | n + 1 => exact .bad _
theorem rho2_ok (G : Kn) {l0 : List S109} {L : List S77} {w wc : World} {v0 v : Value} {N : Nat} (lv0 : LR TT (Am.Safe eta0 (⟨[], []⟩ : Mem tau)) w (.sl 109) (.l 109 (l0 : List S109)) v0)
    (lv : LR TT (fun k => N ≤ k) wc (.sl 77) (.l 77 (L : List S77)) v) (hG : ∀ k, k < w.heap.size → ∃ o, w.heap[k]? = some o ∧ G.G.hp k = some o) (hC : ∀ k, N ≤ k → k < wc.heap.size → ∃ o, wc.heap[k]? = some o ∧ G.G.hp k = some o)
    (h0 : G.G.val 0 = v0) (h1 : G.G.val 1 = v) : ∀ (w' : World) (η : Eta) (m : Mem tau), MR (@TK G) w' η m → ∀ n, VR (@TK G) (Am.Safe η m) w' m η (rho2 l0 L n) ((@TK G).val n) := by
  intro w' η m hm n
  match n with
  | 0 => show VR (@TK G) (Am.Safe η m) w' m η (.sl 109 (l0 : List S109)) (G.G.val 0); rw [h0]; exact .sl _ _ _ ((LR.tab (T := TT) (T' := @TK G) rfl rfl lv0).known (G := G.G) (fun k _ hk => hG k hk) hm.gl)
  | 1 => show VR (@TK G) (Am.Safe η m) w' m η (.sl 77 (L : List S77)) (G.G.val 1); rw [h1]; exact .sl _ _ _ ((LR.tab (T := TT) (T' := @TK G) rfl rfl lv).known (G := G.G) hC hm.gl)
  | n + 2 => exact .bad _
abbrev QW (w : World) : Exit → Act → World → Prop := bodyPost Try.prog Try.f15 (fun e w' => e = .returned (.bool true) ∧ Below w.heap.size w w')
theorem br_yes {c : Bool} {X : Option Unit} (h : brA c X none = some ()) : c = true ∧ X = some () := by
  cases c with
  | true => exact ⟨rfl, h⟩
  | false => cases h
/-- Behind the mark. -/
theorem piece3 (G : Kn) {l0 : List S109} {z y1 y2 : Int} {y3 : List S37} {y4 : List S84} {y5 : List S37} {y6 : List S84} {w w' : World} {a : Act} {η : Eta} (hρ : ∀ (w' : World) (η : Eta) (m : Mem tau), MR (@TK G) w' η m → ∀ n, VR (@TK G) (Am.Safe η m) w' m η (rho1 l0 n) ((@TK G).val n))
    (hres : RES3 l0 z y1 y2 y3 y4 y5 y6 isTrue = some ()) (hat : AtR (@TK G) w eta0 ⟨[], []⟩ ⟨0, 0⟩ w' ⟨tmL 69 0 [(0, .opq 0), (4, .ptr 0 0), (5, .opq 1), (6, .ptr 1 0), (7, .int .i64 z)], ⟨[some (69, [.int .i64 y1, .own 0 0, .own 1 0]), some (69, [.int .i64 y2, .own 2 0, .own 3 0])], [some ⟨37, y3, 0⟩, some ⟨84, y4, 0⟩, some ⟨37, y5, 0⟩, some ⟨84, y6, 0⟩]⟩⟩ a.tmps η) (hd : a.defers = []) :
    (dropC 11 B_15).wp Try.prog (QW w) a w' := by
  have hC := ctrO_ok hρ (ctrN_ok (T := TT) (T' := @TK G) rfl rfl (fun _ _ => trivial) c_law_ok)
  refine codeA_sound (E := @E_15 G) (@pqK G) hC (drawA_ok (@pqK G) hC hmix) _ _ _ _ _ (QW w) ((@w_P3 G l0 z y1 y2 y3 y4 y5 y6 isTrue (fun _ => none)).trans hres) ⟨η, hat⟩ ?_
  rw [hd]
  exact kEnd_true (@pqK G) rfl
abbrev Y7 := Int × Int × Int × List S37 × List S84 × List S37 × List S84
abbrev st7 (x : Y7) : St tau := STK2 x.1 x.2.1 x.2.2.1 x.2.2.2.1 x.2.2.2.2.1 x.2.2.2.2.2.1 x.2.2.2.2.2.2
/-- From behind the first call by hand: the mark is made by hand. -/
theorem piece2 {l0 : List S109} {L : List S77} {x0 : Int} {x1 : List S37} {x2 : List S84} {w wb wc : World} {v0 v : Value} {a : Act} {η : Eta}
    (lv0 : LR TT (Am.Safe eta0 (⟨[], []⟩ : Mem tau)) w (.sl 109) (.l 109 (l0 : List S109)) v0) (hw : w.heap.size ≤ wb.heap.size) (hlen : L.length ≤ 1000000000)
    (hS : Kd.S k77 77 wc wb.heap.size (fun _ => True) v L) (hres : RES2 l0 x0 x1 x2 L isTrue (fun y0 y1 y2 y3 y4 y5 y6 => callX (fun n => laws_markEntryS.f n L y0) fun z => RES3 l0 z y1 y2 y3 y4 y5 y6 isTrue) = some ())
    (hat : AtR (@TK ⟨⟨hpC w wb.heap.size wc, valW v0 v .nilIface⟩⟩) w eta0 ⟨[], []⟩ ⟨0, 0⟩ wc ⟨tmL 69 0 [(0, .opq 0), (4, .ptr 0 0), (5, .opq 1)], ⟨[some (69, [.int .i64 x0, .own 0 0, .own 1 0])], [some ⟨37, x1, 0⟩, some ⟨84, x2, 0⟩]⟩⟩ a.tmps η) (hd : a.defers = []) :
    (dropC 6 B_15).wp Try.prog (QW w) a wc := by
  have hsz : w.heap.size ≤ wc.heap.size := hat.agree.size
  obtain ⟨G, hG⟩ : ∃ G : Kn, G = ⟨⟨hpC w wb.heap.size wc, valW v0 v .nilIface⟩⟩ := ⟨_, rfl⟩
  rw [← hG] at hat
  have hC := ctrO_ok (rho2_ok G lv0 (rr77 (Kd.S_R hS) (S := fun k => wb.heap.size ≤ k) (fun k hk => hk)) (knows_C0 (G := G.G) (N := wb.heap.size) (wc := wc) (by subst hG; rfl)) (knows_C1 (G := G.G) (N := wb.heap.size) (wc := wc) (by subst hG; rfl) hw) (by subst hG; rfl) (by subst hG; rfl)) (ctrN_ok (T := TT) (T' := @TK G) rfl rfl (fun _ _ => trivial) c_law_ok)
  have hrun : run_P2 l0 x0 x1 x2 L isTrue (knA st7 (fun x => callX (fun n => laws_markEntryS.f n L x.1) fun z => RES3 l0 z x.2.1 x.2.2.1 x.2.2.2.1 x.2.2.2.2.1 x.2.2.2.2.2.1 x.2.2.2.2.2.2 isTrue)) = some () := by
    rw [w_P2]
    refine RES2_mono _ _ _ _ _ (fun y0 y1 y2 y3 y4 y5 y6 h => ?_) hres
    exact knA_of (st := st7) (x := (y0, y1, y2, y3, y4, y5, y6)) h
  refine codeT_sound (E := @E_15 G) (@pqK G) hC (drawA_ok (@pqK G) hC hmix) (kEnd_true (@pqK G) rfl) 4 (dropC 6 B_15) _ a wc hrun ⟨η, hat⟩ hd (fun s' a' w2 hkn hat2 hd2 => ?_)
  obtain ⟨⟨y0, y1, y2, y3, y4, y5, y6⟩, rfl, hmark⟩ := knA_some hkn
  obtain ⟨Nm, z, hmk, hres3⟩ := callX_some hmark
  simp only at hmk hres3
  obtain ⟨η2, h0⟩ := hat2
  replace h0 : AtR (@TK G) w eta0 ⟨[], []⟩ ⟨0, 0⟩ w2 (STK2 y0 y1 y2 y3 y4 y5 y6) a'.tmps η2 := h0
  have e20 : dropC 4 (dropC 6 B_15) = Code.seq (.region 13 (headOps (dropC 10 B_15)) false) (dropC 11 B_15) := by kernel_rfl
  have le20 : (headOps (dropC 10 B_15)).toList = [opNo (dropC 10 B_15) 0, opNo (dropC 10 B_15) 1, opNo (dropC 10 B_15) 2, opNo (dropC 10 B_15) 3] := by kernel_rfl
  rw [e20]
  refine wp_seq (wp_region_list ?_)
  rw [le20]
  refine hand_moveT (x := .tmp 5) (t := 32) (by kernel_rfl) (by kernel_rfl) (by kernel_rfl) ?_
  have p1 := h0.put 32 (h0.ev (.tmp 5) (b := .opq 1) (by kernel_rfl))
  refine hand_moveT (x := .tmp 7) (t := 33) (by kernel_rfl) (by kernel_rfl) (by kernel_rfl) ?_
  have p2 := p1.put 33 (p1.ev (a := a'.put (some 32) (a'.eval (.tmp 5))) (.tmp 7) (b := .int .i64 y0) (by kernel_rfl))
  have q1 := (p2.ev (a := (a'.put (some 32) (a'.eval (.tmp 5))).put (some 33) ((a'.put (some 32) (a'.eval (.tmp 5))).eval (.tmp 7))) (.tmp 32) (b := .opq 1) (by kernel_rfl)).opq_inv
  have q2 := (p2.ev (a := (a'.put (some 32) (a'.eval (.tmp 5))).put (some 33) ((a'.put (some 32) (a'.eval (.tmp 5))).eval (.tmp 7))) (.tmp 33) (b := .int .i64 y0) (by kernel_rfl)).int_inv
  replace q1 := q1.trans (show (@TK G).val 1 = v from by subst hG; rfl)
  have hgl : glG G.G w2 (Am.Safe η2 (STK2 y0 y1 y2 y3 y4 y5 y6).m) := h0.mr.gl
  have hkeep : ∀ k, wb.heap.size ≤ k → k < wc.heap.size → Am.Safe η2 (STK2 y0 y1 y2 y3 y4 y5 y6).m k ∧ w2.heap[k]? = wc.heap[k]? := fun k hk hl => by
    obtain ⟨o, ho, hp⟩ := knows_C1 (w := w) (G := G.G) (N := wb.heap.size) (wc := wc) (by subst hG; rfl) hw k hk hl
    obtain ⟨g1, _, g3⟩ := hgl k o hp
    exact ⟨g1, g3.trans ho.symm⟩
  have hS2 : Kd.S k77 77 w2 0 (fun k => wb.heap.size ≤ k ∧ k < wc.heap.size) v L :=
    Kd.S_lower (Kd.S_move (Kd.S_mono (Kd.S_bound hS) (fun k hk => ⟨hk.2.1, hk.2.2.1⟩)) (fun k hk => (hkeep k hk.1 hk.2).2)) (Nat.zero_le _)
  refine hand_callT (ts := #[65, 3]) (f := 76) (xs := #[.tmp 32, .tmp 33]) (t := 34) (by kernel_rfl) (by kernel_rfl) (by kernel_rfl) ⟨Try.f76, by kernel_rfl, by kernel_rfl, by kernel_rfl⟩ (vs := #[v, .int .i64 y0])
    (R := fun u w' => u = .int .i64 z ∧ Below 0 { w2 with heap := #[] } w' ∧ Kept w2 w' (fun k => wb.heap.size ≤ k ∧ k < wc.heap.size)) ?_ ?_ ?_
  · exact map2_of q1 q2
  · exact (laws_markEntryS.calls Nm _ v L y0 z { w2 with heap := #[] } w2 ⟨rfl, rfl, rfl, Nat.zero_le _, fun k hk => absurd hk (Nat.not_lt_zero k)⟩ hlen hS2 hmk).mono fun e w' ⟨he, hb, hk⟩ => ⟨_, he, rfl, hb, hk⟩
  · rintro u w3 ⟨rfl, hb3, hk3⟩
    have r1 : AtR (@TK ⟨⟨hpW w, valW v0 v .nilIface⟩⟩) w eta0 ⟨[], []⟩ ⟨0, 0⟩ w3 _ _ η2 := p2.move (T := @TK G) (T' := @TK ⟨⟨hpW w, valW v0 v .nilIface⟩⟩) (p := fun _ => true) (w' := w3) rfl rfl (fun n _ => by subst hG; rfl) rfl rfl (by kernel_rfl)
      (fun k ho => hk3.2 k (p2.mr.owned_lt ho) (fun hd => (hkeep k hd.1 hd.2).1 ho))
      ⟨hb3.os, hb3.tape, hb3.output, hk3.1, fun k hk hl => hk3.2 k hl (fun hd => by have := hd.1; omega)⟩ ?_ (fun _ h => h)
    case refine_1 =>
      intro k o hk
      obtain ⟨g1, g2, g3⟩ := gl_W (val := valW v0 v .nilIface) p2 k o hk
      have hl : k < w.heap.size := (Array.getElem?_eq_some_iff.1 (show w.heap[k]? = some o from hk)).1
      exact ⟨g1, Nat.lt_of_lt_of_le g2 hk3.1, (hk3.2 k g2 (fun hd => by have := hd.1; omega)).trans g3⟩
    have r2 := r1.put 34 (a := .int .i64 z) (v := .int .i64 z) (.int _ _)
    refine hand_assignT (x := .tmp 34) (t := 7) (by kernel_rfl) (by kernel_rfl) (by kernel_rfl) ?_
    have r3 := r2.put 7 (r2.ev (a := ((a'.put (some 32) (a'.eval (.tmp 5))).put (some 33) ((a'.put (some 32) (a'.eval (.tmp 5))).eval (.tmp 7))).put (some 34) (.int .i64 z)) (.tmp 34) (b := .int .i64 z) (by kernel_rfl))
    have r4 := r3.mask [0, 4, 5, 6, 7]
    exact piece3 ⟨⟨hpW w, valW v0 v .nilIface⟩⟩ (rho1_ok _ lv0 (knows_W rfl) rfl) hres3 r4 hd2
abbrev st3 (x : Int × List S37 × List S84) : St tau := STK1 x.1 x.2.1 x.2.2
theorem laws_FnExactCertFold.walk (P : laws_FnExactCertFold.Pure) (A0 : Option Addr) (c0 : Nat) (l0 : (List S109)) (w : World) (hr0 : Kd.C k109 w A0 l0.length l0) (hc0 : l0.length ≤ c0) (w0 : (l0.length ≤ 9223372036854775807 ∧ ∀ y ∈ l0, wf109 y)) :
 Calls Try.prog 15 #[.slice A0 l0.length c0] w fun e w' => e = .returned (.bool true) ∧ Below w.heap.size w w' := by
  have hp := P l0 w0
  have lv0 := lr109 hr0 hc0
  obtain ⟨G, hG⟩ : ∃ G : Kn, G = ⟨⟨hpW w, valW (.slice A0 l0.length c0) .nilIface .nilIface⟩⟩ := ⟨_, rfl⟩
  have hC := ctrO_ok (rho1_ok G lv0 (knows_W (G := G.G) (w := w) (by subst hG; rfl)) (by subst hG; rfl)) (ctrN_ok (T := TT) (T' := @TK G) rfl rfl (fun _ _ => trivial) c_law_ok)
  have hrun : run_P1 l0 isTrue (knA st3 (fun x => callX (fun n => laws_toEntryS.f n l0) fun L => brA (decide (L.length ≤ 1000000000)) (RES2 l0 x.1 x.2.1 x.2.2 L isTrue (fun y0 y1 y2 y3 y4 y5 y6 => callX (fun n => laws_markEntryS.f n L y0) fun z => RES3 l0 z y1 y2 y3 y4 y5 y6 isTrue)) none)) = some () := by
    rw [w_P1]
    refine RES1_mono _ (fun x1 x2 x3 h => ?_) hp
    exact knA_of (st := st3) (x := (x1, x2, x3)) h
  refine calls_of_wp (fn := Try.f15) (c := B_15) (by kernel_rfl) (by kernel_rfl) ?_
  have hst : At (@TK G) w eta0 ⟨[], []⟩ ⟨0, 0⟩ w ⟨[.opq 0] ++ unds (69 - 1), ⟨[], []⟩⟩ (#[.slice A0 l0.length c0] ++ Array.replicate (Try.f15.ntmps - 1) undef) :=
    at_enter (T := @TK G) (nb := ⟨0, 0⟩) (args := [.opq 0]) (vs := #[.slice A0 l0.length c0]) (n := Try.f15.ntmps) rfl rfl (by rw [hG]; exact gl_start) (vrs_cons (by have := VR.opq (T := @TK G) (S := Am.Safe eta0 (⟨[], []⟩ : Mem tau)) (w := w) (m := ⟨[], []⟩) (η := eta0) 0; rw [show (@TK G).val 0 = .slice A0 l0.length c0 from by subst hG; rfl] at this; exact this) vrs_nil)
  refine codeT_sound (E := @E_15 G) (@pqK G) hC (drawA_ok (@pqK G) hC hmix) (kEnd_true (@pqK G) rfl) 5 B_15 _ _ w hrun hst rfl (fun s' a' wb hkn hat2 hd2 => ?_)
  obtain ⟨⟨x0, x1, x2⟩, rfl, hmk⟩ := knA_some hkn
  obtain ⟨N1, L, hL, hres1⟩ := callX_some hmk
  obtain ⟨hlen, hres2⟩ := br_yes hres1
  simp only at hL hres2
  replace hlen := of_decide_eq_true hlen
  obtain ⟨η, h0⟩ := hat2
  replace h0 : AtR (@TK G) w eta0 ⟨[], []⟩ ⟨0, 0⟩ wb (STK1 x0 x1 x2) a'.tmps η := h0
  have e10 : dropC 5 B_15 = Code.seq (.region 6 (headOps (dropC 5 B_15)) false) (dropC 6 B_15) := by kernel_rfl
  have le10 : (headOps (dropC 5 B_15)).toList = [opNo (dropC 5 B_15) 0, opNo (dropC 5 B_15) 1, opNo (dropC 5 B_15) 2] := by kernel_rfl
  rw [e10]
  refine wp_seq (wp_region_list ?_)
  rw [le10]
  refine hand_moveT (x := .tmp 0) (t := 19) (by kernel_rfl) (by kernel_rfl) (by kernel_rfl) ?_
  have p1 := h0.put 19 (h0.ev (.tmp 0) (b := .opq 0) (by kernel_rfl))
  have q1 := (p1.ev (a := a'.put (some 19) (a'.eval (.tmp 0))) (.tmp 19) (b := .opq 0) (by kernel_rfl)).opq_inv
  replace q1 := q1.trans (show (@TK G).val 0 = .slice A0 l0.length c0 from by subst hG; rfl)
  refine hand_callT (ts := #[117]) (f := 74) (xs := #[.tmp 19]) (t := 20) (by kernel_rfl) (by kernel_rfl) (by kernel_rfl) ⟨Try.f74, by kernel_rfl, by kernel_rfl, by kernel_rfl⟩ (vs := #[.slice A0 l0.length c0])
    (R := fun u w' => Kd.S k77 77 w' wb.heap.size (fun _ => True) u L ∧ Below wb.heap.size wb w') ?_ ?_ ?_
  · exact map1_of q1
  · exact (laws_toEntryS.calls N1 A0 c0 l0 L wb (Kd.C_below hr0 h0.below) hc0 hL).mono fun e w' ⟨u, he, hS, hb⟩ => ⟨u, he, hS, hb⟩
  · rintro v wc ⟨hS, hb⟩
    have r1 : AtR (@TK ⟨⟨hpC w wb.heap.size wc, valW (.slice A0 l0.length c0) v .nilIface⟩⟩) w eta0 ⟨[], []⟩ ⟨0, 0⟩ wc _ _ η := p1.move (T := @TK G) (T' := @TK ⟨⟨hpC w wb.heap.size wc, valW (.slice A0 l0.length c0) v .nilIface⟩⟩) (p := fun n => n != 1) (w' := wc) rfl rfl
      (fun n hn => by rw [hG]; exact match n, hn with | 0, _ => rfl | 2, _ => rfl | n + 3, _ => rfl) rfl rfl (by kernel_rfl)
      (fun k ho => hb.block k (p1.mr.owned_lt ho)) ⟨hb.os, hb.tape, hb.output, hb.size, fun k hk hl => hb.block k hl⟩ (gl_C (val := valW (.slice A0 l0.length c0) v .nilIface) p1 hb) (fun _ h => h)
    have r2 := r1.put 20 (a := .opq 1) (v := v) (VR.opq (T := @TK ⟨⟨hpC w wb.heap.size wc, valW (.slice A0 l0.length c0) v .nilIface⟩⟩) 1)
    refine hand_assignT (x := .tmp 20) (t := 5) (by kernel_rfl) (by kernel_rfl) (by kernel_rfl) ?_
    have r3 := r2.put 5 (r2.ev (a := (a'.put (some 19) (a'.eval (.tmp 0))).put (some 20) v) (.tmp 20) (b := .opq 1) (by kernel_rfl))
    have r4 := r3.mask [0, 4, 5]
    exact piece2 lv0 h0.agree.size hlen hS hres2 r4 hd2

end Go.Proofs.Ytkkmhlfpombgfaa.PFnExactCertFold
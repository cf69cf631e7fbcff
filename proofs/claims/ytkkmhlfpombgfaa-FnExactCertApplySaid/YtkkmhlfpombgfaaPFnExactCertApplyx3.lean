/- The machine's texts of FnExactCertApply (the law's walk). Conditions: none. -/
import Derived.Test.YtkkmhlfpombgfaaPFnExactCertApplyx2
import Derived.Test.YtkkmhlfpombgfaaAm40
import Derived.Test.YtkkmhlfpombgfaaSWFnExactCertApply
set_option linter.unusedVariables false
set_option maxRecDepth 100000
namespace Go.Proofs.Ytkkmhlfpombgfaa.PFnExactCertApply
open Go.RowKit Go.Proofs.YtkkmhlfpombgfaaW.PrintWords Go.Proofs.YtkkmhlfpombgfaaW.PrintLast Go.Proofs.YtkkmhlfpombgfaaW.PrintMore
open Go Go.Proofs Am
def k136 : Kd S136 := Kd.iso (Kd.pair (Kd.int .i64) (Kd.int .i64)) (fun x : S136 => (x.f0, x.f1))
theorem k136_open {w : World} {x : S136} {cs : List Value} (h : k136.K w x cs) : cs = [.int .i64 x.f0, .int .i64 x.f1] := by
  obtain ⟨_, _, rfl, rfl, rfl⟩ := h
  exact rfl
def k103 : Kd S103 := Kd.iso (Kd.pair (Kd.int .i64) (Kd.int .i64)) (fun x : S103 => (x.f0, x.f1))
theorem k103_open {w : World} {x : S103} {cs : List Value} (h : k103.K w x cs) : cs = [.int .i64 x.f0, .int .i64 x.f1] := by
  obtain ⟨_, _, rfl, rfl, rfl⟩ := h
  exact rfl
def k189 : Kd S189 := Kd.iso (Kd.pair k103 (Kd.pair (Kd.int .i64) (Kd.int .i64))) (fun x : S189 => (x.f0, x.f1, x.f2))
theorem k189_open {w : World} {x : S189} {cs : List Value} (h : k189.K w x cs) : cs = [.int .i64 x.f0.f0, .int .i64 x.f0.f1, .int .i64 x.f1, .int .i64 x.f2] := by
  obtain ⟨_, _, rfl, s0, ⟨_, _, rfl, rfl, rfl⟩⟩ := h
  obtain rfl := k103_open s0
  exact rfl
def k102 : Kd S102 := Kd.iso (Kd.pair (Kd.int .i64) (Kd.pair (Kd.slice 136 k136) (Kd.slice 189 k189))) (fun x : S102 => (x.f0, x.f1, x.f2))
theorem k102_open {w : World} {x : S102} {cs : List Value} (h : k102.K w x cs) : ∃ A1 c1 A2 c2, cs = [.int .i64 x.f0, .slice A1 x.f1.length c1, .slice A2 x.f2.length c2] ∧ x.f1.length ≤ c1 ∧ k136.C w A1 x.f1.length x.f1 ∧ x.f2.length ≤ c2 ∧ k189.C w A2 x.f2.length x.f2 := by
  obtain ⟨_, _, rfl, rfl, ⟨_, _, rfl, ⟨A1, c1, rfl, l1, g1⟩, ⟨A2, c2, rfl, l2, g2⟩⟩⟩ := h
  exact ⟨A1, c1, A2, c2, rfl, l1, g1, l2, g2⟩
def k196 : Kd S196 := Kd.iso (Kd.pair (Kd.int .i64) (Kd.int .i64)) (fun x : S196 => (x.f0, x.f1))
theorem k196_open {w : World} {x : S196} {cs : List Value} (h : k196.K w x cs) : cs = [.int .i64 x.f0, .int .i64 x.f1] := by
  obtain ⟨_, _, rfl, rfl, rfl⟩ := h
  exact rfl
def k198 : Kd S198 := Kd.iso (Kd.pair (Kd.int .i64) (Kd.int .i64)) (fun x : S198 => (x.f0, x.f1))
theorem k198_open {w : World} {x : S198} {cs : List Value} (h : k198.K w x cs) : cs = [.int .i64 x.f0, .int .i64 x.f1] := by
  obtain ⟨_, _, rfl, rfl, rfl⟩ := h
  exact rfl
def k107 : Kd S107 := Kd.iso (Kd.pair (Kd.slice 196 k196) (Kd.pair (Kd.slice 198 k198) (Kd.pair (Kd.int .i64) (Kd.int .i64)))) (fun x : S107 => (x.f0, x.f1, x.f2, x.f3))
theorem k107_open {w : World} {x : S107} {cs : List Value} (h : k107.K w x cs) : ∃ A0 c0 A1 c1, cs = [.slice A0 x.f0.length c0, .slice A1 x.f1.length c1, .int .i64 x.f2, .int .i64 x.f3] ∧ x.f0.length ≤ c0 ∧ k196.C w A0 x.f0.length x.f0 ∧ x.f1.length ≤ c1 ∧ k198.C w A1 x.f1.length x.f1 := by
  obtain ⟨_, _, rfl, ⟨A0, c0, rfl, l0, g0⟩, ⟨_, _, rfl, ⟨A1, c1, rfl, l1, g1⟩, ⟨_, _, rfl, rfl, rfl⟩⟩⟩ := h
  exact ⟨A0, c0, A1, c1, rfl, l0, g0, l1, g1⟩
def k109 : Kd S109 := Kd.iso (Kd.pair Kd.bool (Kd.pair k103 k107)) (fun x : S109 => (x.f0, x.f1, x.f2))
theorem k109_open {w : World} {x : S109} {cs : List Value} (h : k109.K w x cs) : ∃ A3 c3 A4 c4, cs = [.bool x.f0, .int .i64 x.f1.f0, .int .i64 x.f1.f1, .slice A3 x.f2.f0.length c3, .slice A4 x.f2.f1.length c4, .int .i64 x.f2.f2, .int .i64 x.f2.f3] ∧ x.f2.f0.length ≤ c3 ∧ k196.C w A3 x.f2.f0.length x.f2.f0 ∧ x.f2.f1.length ≤ c4 ∧ k198.C w A4 x.f2.f1.length x.f2.f1 := by
  obtain ⟨_, _, rfl, rfl, ⟨_, _, rfl, s1, s3⟩⟩ := h
  obtain rfl := k103_open s1
  obtain ⟨A3, c3, A4, c4, rfl, l3, g3, l4, g4⟩ := k107_open s3
  exact ⟨A3, c3, A4, c4, rfl, l3, g3, l4, g4⟩
def wf136 (x : S136) : Prop := (Lit.int .i64 (x.f0)).wf = true ∧ (Lit.int .i64 (x.f1)).wf = true
def wf103 (x : S103) : Prop := (Lit.int .i64 (x.f0)).wf = true ∧ (Lit.int .i64 (x.f1)).wf = true
def wf189 (x : S189) : Prop := wf103 (x.f0) ∧ (Lit.int .i64 (x.f1)).wf = true ∧ (Lit.int .i64 (x.f2)).wf = true
def wf102 (x : S102) : Prop := (Lit.int .i64 (x.f0)).wf = true ∧ (x.f1.length ≤ 9223372036854775807 ∧ ∀ y ∈ x.f1, wf136 y) ∧ (x.f2.length ≤ 9223372036854775807 ∧ ∀ y ∈ x.f2, wf189 y)
def wf196 (x : S196) : Prop := (Lit.int .i64 (x.f0)).wf = true ∧ (Lit.int .i64 (x.f1)).wf = true
def wf198 (x : S198) : Prop := (Lit.int .i64 (x.f0)).wf = true ∧ (Lit.int .i64 (x.f1)).wf = true
def wf107 (x : S107) : Prop := (x.f0.length ≤ 9223372036854775807 ∧ ∀ y ∈ x.f0, wf196 y) ∧ (x.f1.length ≤ 9223372036854775807 ∧ ∀ y ∈ x.f1, wf198 y) ∧ (Lit.int .i64 (x.f2)).wf = true ∧ (Lit.int .i64 (x.f3)).wf = true
def wf109 (x : S109) : Prop := True ∧ wf103 (x.f1) ∧ wf107 (x.f2)
def laws_FnExactCertApply.Pure : Prop := ∀ (a0 : S102) (a1 : S109), wf102 a0 → wf109 a1 → ∃ k, laws_FnExactCertApply.f k a0.f0 a0.f1 a0.f2 a1.f0 a1.f1.f0 a1.f1.f1 a1.f2.f0 a1.f2.f1 a1.f2.f2 a1.f2.f3 = some true
theorem split136_th (cs : List Value) (h : cs.length = 2) : cs = (cs.drop 0).take 1 ++ ((cs.drop 1).take 1) := by
  match cs, h with
  | [c0, c1], _ => rfl
theorem opens136 : YtkkmhlfpombgfaaTh.Opens Try.prog 136 k136 wf136 := by
  intro H enc w fuel cs x h
  obtain ⟨xs, n, _, _, hl, hlen, hf⟩ := DataW.trod_struct Try.underlying136 h
  have hl2 : cs.length = 2 := hl.trans (by kernel_rfl)
  clear h hl
  have h0 : DataW.trod enc Try.prog w 0 (fun _ => true) true n 3 ((cs.drop 0).take (Try.prog.cellsOf 3)) = xs[0]? := hf 0 _ rfl
  rw [show Try.prog.cellsOf 3 = 1 from by kernel_rfl] at h0
  obtain ⟨y0, hy0⟩ := Option.isSome_iff_exists.1 (show (xs[0]?).isSome from by simp [hlen])
  rw [hy0] at h0
  obtain ⟨a0, ka0, wa0⟩ := (YtkkmhlfpombgfaaTh.opens_int Try.underlying3) enc w n _ _ h0
  have h1 : DataW.trod enc Try.prog w 0 (fun _ => true) true n 3 ((cs.drop 1).take (Try.prog.cellsOf 3)) = xs[1]? := hf 1 _ rfl
  rw [show Try.prog.cellsOf 3 = 1 from by kernel_rfl] at h1
  obtain ⟨y1, hy1⟩ := Option.isSome_iff_exists.1 (show (xs[1]?).isSome from by simp [hlen])
  rw [hy1] at h1
  obtain ⟨a1, ka1, wa1⟩ := (YtkkmhlfpombgfaaTh.opens_int Try.underlying3) enc w n _ _ h1
  clear hf
  refine ⟨⟨a0, a1⟩, ?_, ⟨wa0, wa1⟩⟩
  have e_ : cs = (cs.drop 0).take 1 ++ ((cs.drop 1).take 1) := by
    exact split136_th cs hl2
  rw [e_]
  exact ⟨_, _, rfl, ka0, ka1⟩
theorem split103_th (cs : List Value) (h : cs.length = 2) : cs = (cs.drop 0).take 1 ++ ((cs.drop 1).take 1) := by
  match cs, h with
  | [c0, c1], _ => rfl
theorem opens103 : YtkkmhlfpombgfaaTh.Opens Try.prog 103 k103 wf103 := by
  intro H enc w fuel cs x h
  obtain ⟨xs, n, _, _, hl, hlen, hf⟩ := DataW.trod_struct Try.underlying103 h
  have hl2 : cs.length = 2 := hl.trans (by kernel_rfl)
  clear h hl
  have h0 : DataW.trod enc Try.prog w 0 (fun _ => true) true n 3 ((cs.drop 0).take (Try.prog.cellsOf 3)) = xs[0]? := hf 0 _ rfl
  rw [show Try.prog.cellsOf 3 = 1 from by kernel_rfl] at h0
  obtain ⟨y0, hy0⟩ := Option.isSome_iff_exists.1 (show (xs[0]?).isSome from by simp [hlen])
  rw [hy0] at h0
  obtain ⟨a0, ka0, wa0⟩ := (YtkkmhlfpombgfaaTh.opens_int Try.underlying3) enc w n _ _ h0
  have h1 : DataW.trod enc Try.prog w 0 (fun _ => true) true n 3 ((cs.drop 1).take (Try.prog.cellsOf 3)) = xs[1]? := hf 1 _ rfl
  rw [show Try.prog.cellsOf 3 = 1 from by kernel_rfl] at h1
  obtain ⟨y1, hy1⟩ := Option.isSome_iff_exists.1 (show (xs[1]?).isSome from by simp [hlen])
  rw [hy1] at h1
  obtain ⟨a1, ka1, wa1⟩ := (YtkkmhlfpombgfaaTh.opens_int Try.underlying3) enc w n _ _ h1
  clear hf
  refine ⟨⟨a0, a1⟩, ?_, ⟨wa0, wa1⟩⟩
  have e_ : cs = (cs.drop 0).take 1 ++ ((cs.drop 1).take 1) := by
    exact split103_th cs hl2
  rw [e_]
  exact ⟨_, _, rfl, ka0, ka1⟩
theorem split189_th (cs : List Value) (h : cs.length = 4) : cs = (cs.drop 0).take 2 ++ ((cs.drop 2).take 1 ++ ((cs.drop 3).take 1)) := by
  match cs, h with
  | [c0, c1, c2, c3], _ => rfl
theorem opens189 : YtkkmhlfpombgfaaTh.Opens Try.prog 189 k189 wf189 := by
  intro H enc w fuel cs x h
  obtain ⟨xs, n, _, _, hl, hlen, hf⟩ := DataW.trod_struct Try.underlying189 h
  have hl2 : cs.length = 4 := hl.trans (by kernel_rfl)
  clear h hl
  have h0 : DataW.trod enc Try.prog w 0 (fun _ => true) true n 103 ((cs.drop 0).take (Try.prog.cellsOf 103)) = xs[0]? := hf 0 _ rfl
  rw [show Try.prog.cellsOf 103 = 2 from by kernel_rfl] at h0
  obtain ⟨y0, hy0⟩ := Option.isSome_iff_exists.1 (show (xs[0]?).isSome from by simp [hlen])
  rw [hy0] at h0
  obtain ⟨a0, ka0, wa0⟩ := opens103 enc w n _ _ h0
  have h1 : DataW.trod enc Try.prog w 0 (fun _ => true) true n 3 ((cs.drop 2).take (Try.prog.cellsOf 3)) = xs[1]? := hf 1 _ rfl
  rw [show Try.prog.cellsOf 3 = 1 from by kernel_rfl] at h1
  obtain ⟨y1, hy1⟩ := Option.isSome_iff_exists.1 (show (xs[1]?).isSome from by simp [hlen])
  rw [hy1] at h1
  obtain ⟨a1, ka1, wa1⟩ := (YtkkmhlfpombgfaaTh.opens_int Try.underlying3) enc w n _ _ h1
  have h2 : DataW.trod enc Try.prog w 0 (fun _ => true) true n 3 ((cs.drop 3).take (Try.prog.cellsOf 3)) = xs[2]? := hf 2 _ rfl
  rw [show Try.prog.cellsOf 3 = 1 from by kernel_rfl] at h2
  obtain ⟨y2, hy2⟩ := Option.isSome_iff_exists.1 (show (xs[2]?).isSome from by simp [hlen])
  rw [hy2] at h2
  obtain ⟨a2, ka2, wa2⟩ := (YtkkmhlfpombgfaaTh.opens_int Try.underlying3) enc w n _ _ h2
  clear hf
  refine ⟨⟨a0, a1, a2⟩, ?_, ⟨wa0, wa1, wa2⟩⟩
  have e_ : cs = (cs.drop 0).take 2 ++ ((cs.drop 2).take 1 ++ ((cs.drop 3).take 1)) := by
    exact split189_th cs hl2
  rw [e_]
  exact ⟨_, _, rfl, ka0, ⟨_, _, rfl, ka1, ka2⟩⟩
theorem split102_th (cs : List Value) (h : cs.length = 3) : cs = (cs.drop 0).take 1 ++ ((cs.drop 1).take 1 ++ ((cs.drop 2).take 1)) := by
  match cs, h with
  | [c0, c1, c2], _ => rfl
theorem opens102 : YtkkmhlfpombgfaaTh.Opens Try.prog 102 k102 wf102 := by
  intro H enc w fuel cs x h
  obtain ⟨xs, n, _, _, hl, hlen, hf⟩ := DataW.trod_struct Try.underlying102 h
  have hl2 : cs.length = 3 := hl.trans (by kernel_rfl)
  clear h hl
  have h0 : DataW.trod enc Try.prog w 0 (fun _ => true) true n 3 ((cs.drop 0).take (Try.prog.cellsOf 3)) = xs[0]? := hf 0 _ rfl
  rw [show Try.prog.cellsOf 3 = 1 from by kernel_rfl] at h0
  obtain ⟨y0, hy0⟩ := Option.isSome_iff_exists.1 (show (xs[0]?).isSome from by simp [hlen])
  rw [hy0] at h0
  obtain ⟨a0, ka0, wa0⟩ := (YtkkmhlfpombgfaaTh.opens_int Try.underlying3) enc w n _ _ h0
  have h1 : DataW.trod enc Try.prog w 0 (fun _ => true) true n 41 ((cs.drop 1).take (Try.prog.cellsOf 41)) = xs[1]? := hf 1 _ rfl
  rw [show Try.prog.cellsOf 41 = 1 from by kernel_rfl] at h1
  obtain ⟨y1, hy1⟩ := Option.isSome_iff_exists.1 (show (xs[1]?).isSome from by simp [hlen])
  rw [hy1] at h1
  obtain ⟨a1, ka1, wa1⟩ := (YtkkmhlfpombgfaaTh.opens_slice Try.underlying41 (by kernel_rfl) opens136) enc w n _ _ h1
  have h2 : DataW.trod enc Try.prog w 0 (fun _ => true) true n 100 ((cs.drop 2).take (Try.prog.cellsOf 100)) = xs[2]? := hf 2 _ rfl
  rw [show Try.prog.cellsOf 100 = 1 from by kernel_rfl] at h2
  obtain ⟨y2, hy2⟩ := Option.isSome_iff_exists.1 (show (xs[2]?).isSome from by simp [hlen])
  rw [hy2] at h2
  obtain ⟨a2, ka2, wa2⟩ := (YtkkmhlfpombgfaaTh.opens_slice Try.underlying100 (by kernel_rfl) opens189) enc w n _ _ h2
  clear hf
  refine ⟨⟨a0, a1, a2⟩, ?_, ⟨wa0, wa1, wa2⟩⟩
  have e_ : cs = (cs.drop 0).take 1 ++ ((cs.drop 1).take 1 ++ ((cs.drop 2).take 1)) := by
    exact split102_th cs hl2
  rw [e_]
  exact ⟨_, _, rfl, ka0, ⟨_, _, rfl, ka1, ka2⟩⟩
theorem split196_th (cs : List Value) (h : cs.length = 2) : cs = (cs.drop 0).take 1 ++ ((cs.drop 1).take 1) := by
  match cs, h with
  | [c0, c1], _ => rfl
theorem opens196 : YtkkmhlfpombgfaaTh.Opens Try.prog 196 k196 wf196 := by
  intro H enc w fuel cs x h
  obtain ⟨xs, n, _, _, hl, hlen, hf⟩ := DataW.trod_struct Try.underlying196 h
  have hl2 : cs.length = 2 := hl.trans (by kernel_rfl)
  clear h hl
  have h0 : DataW.trod enc Try.prog w 0 (fun _ => true) true n 3 ((cs.drop 0).take (Try.prog.cellsOf 3)) = xs[0]? := hf 0 _ rfl
  rw [show Try.prog.cellsOf 3 = 1 from by kernel_rfl] at h0
  obtain ⟨y0, hy0⟩ := Option.isSome_iff_exists.1 (show (xs[0]?).isSome from by simp [hlen])
  rw [hy0] at h0
  obtain ⟨a0, ka0, wa0⟩ := (YtkkmhlfpombgfaaTh.opens_int Try.underlying3) enc w n _ _ h0
  have h1 : DataW.trod enc Try.prog w 0 (fun _ => true) true n 3 ((cs.drop 1).take (Try.prog.cellsOf 3)) = xs[1]? := hf 1 _ rfl
  rw [show Try.prog.cellsOf 3 = 1 from by kernel_rfl] at h1
  obtain ⟨y1, hy1⟩ := Option.isSome_iff_exists.1 (show (xs[1]?).isSome from by simp [hlen])
  rw [hy1] at h1
  obtain ⟨a1, ka1, wa1⟩ := (YtkkmhlfpombgfaaTh.opens_int Try.underlying3) enc w n _ _ h1
  clear hf
  refine ⟨⟨a0, a1⟩, ?_, ⟨wa0, wa1⟩⟩
  have e_ : cs = (cs.drop 0).take 1 ++ ((cs.drop 1).take 1) := by
    exact split196_th cs hl2
  rw [e_]
  exact ⟨_, _, rfl, ka0, ka1⟩
theorem split198_th (cs : List Value) (h : cs.length = 2) : cs = (cs.drop 0).take 1 ++ ((cs.drop 1).take 1) := by
  match cs, h with
  | [c0, c1], _ => rfl
theorem opens198 : YtkkmhlfpombgfaaTh.Opens Try.prog 198 k198 wf198 := by
  intro H enc w fuel cs x h
  obtain ⟨xs, n, _, _, hl, hlen, hf⟩ := DataW.trod_struct Try.underlying198 h
  have hl2 : cs.length = 2 := hl.trans (by kernel_rfl)
  clear h hl
  have h0 : DataW.trod enc Try.prog w 0 (fun _ => true) true n 3 ((cs.drop 0).take (Try.prog.cellsOf 3)) = xs[0]? := hf 0 _ rfl
  rw [show Try.prog.cellsOf 3 = 1 from by kernel_rfl] at h0
  obtain ⟨y0, hy0⟩ := Option.isSome_iff_exists.1 (show (xs[0]?).isSome from by simp [hlen])
  rw [hy0] at h0
  obtain ⟨a0, ka0, wa0⟩ := (YtkkmhlfpombgfaaTh.opens_int Try.underlying3) enc w n _ _ h0
  have h1 : DataW.trod enc Try.prog w 0 (fun _ => true) true n 3 ((cs.drop 1).take (Try.prog.cellsOf 3)) = xs[1]? := hf 1 _ rfl
  rw [show Try.prog.cellsOf 3 = 1 from by kernel_rfl] at h1
  obtain ⟨y1, hy1⟩ := Option.isSome_iff_exists.1 (show (xs[1]?).isSome from by simp [hlen])
  rw [hy1] at h1
  obtain ⟨a1, ka1, wa1⟩ := (YtkkmhlfpombgfaaTh.opens_int Try.underlying3) enc w n _ _ h1
  clear hf
  refine ⟨⟨a0, a1⟩, ?_, ⟨wa0, wa1⟩⟩
  have e_ : cs = (cs.drop 0).take 1 ++ ((cs.drop 1).take 1) := by
    exact split198_th cs hl2
  rw [e_]
  exact ⟨_, _, rfl, ka0, ka1⟩
theorem split107_th (cs : List Value) (h : cs.length = 4) : cs = (cs.drop 0).take 1 ++ ((cs.drop 1).take 1 ++ ((cs.drop 2).take 1 ++ ((cs.drop 3).take 1))) := by
  match cs, h with
  | [c0, c1, c2, c3], _ => rfl
theorem opens107 : YtkkmhlfpombgfaaTh.Opens Try.prog 107 k107 wf107 := by
  intro H enc w fuel cs x h
  obtain ⟨xs, n, _, _, hl, hlen, hf⟩ := DataW.trod_struct Try.underlying107 h
  have hl2 : cs.length = 4 := hl.trans (by kernel_rfl)
  clear h hl
  have h0 : DataW.trod enc Try.prog w 0 (fun _ => true) true n 104 ((cs.drop 0).take (Try.prog.cellsOf 104)) = xs[0]? := hf 0 _ rfl
  rw [show Try.prog.cellsOf 104 = 1 from by kernel_rfl] at h0
  obtain ⟨y0, hy0⟩ := Option.isSome_iff_exists.1 (show (xs[0]?).isSome from by simp [hlen])
  rw [hy0] at h0
  obtain ⟨a0, ka0, wa0⟩ := (YtkkmhlfpombgfaaTh.opens_slice Try.underlying104 (by kernel_rfl) opens196) enc w n _ _ h0
  have h1 : DataW.trod enc Try.prog w 0 (fun _ => true) true n 105 ((cs.drop 1).take (Try.prog.cellsOf 105)) = xs[1]? := hf 1 _ rfl
  rw [show Try.prog.cellsOf 105 = 1 from by kernel_rfl] at h1
  obtain ⟨y1, hy1⟩ := Option.isSome_iff_exists.1 (show (xs[1]?).isSome from by simp [hlen])
  rw [hy1] at h1
  obtain ⟨a1, ka1, wa1⟩ := (YtkkmhlfpombgfaaTh.opens_slice Try.underlying105 (by kernel_rfl) opens198) enc w n _ _ h1
  have h2 : DataW.trod enc Try.prog w 0 (fun _ => true) true n 3 ((cs.drop 2).take (Try.prog.cellsOf 3)) = xs[2]? := hf 2 _ rfl
  rw [show Try.prog.cellsOf 3 = 1 from by kernel_rfl] at h2
  obtain ⟨y2, hy2⟩ := Option.isSome_iff_exists.1 (show (xs[2]?).isSome from by simp [hlen])
  rw [hy2] at h2
  obtain ⟨a2, ka2, wa2⟩ := (YtkkmhlfpombgfaaTh.opens_int Try.underlying3) enc w n _ _ h2
  have h3 : DataW.trod enc Try.prog w 0 (fun _ => true) true n 3 ((cs.drop 3).take (Try.prog.cellsOf 3)) = xs[3]? := hf 3 _ rfl
  rw [show Try.prog.cellsOf 3 = 1 from by kernel_rfl] at h3
  obtain ⟨y3, hy3⟩ := Option.isSome_iff_exists.1 (show (xs[3]?).isSome from by simp [hlen])
  rw [hy3] at h3
  obtain ⟨a3, ka3, wa3⟩ := (YtkkmhlfpombgfaaTh.opens_int Try.underlying3) enc w n _ _ h3
  clear hf
  refine ⟨⟨a0, a1, a2, a3⟩, ?_, ⟨wa0, wa1, wa2, wa3⟩⟩
  have e_ : cs = (cs.drop 0).take 1 ++ ((cs.drop 1).take 1 ++ ((cs.drop 2).take 1 ++ ((cs.drop 3).take 1))) := by
    exact split107_th cs hl2
  rw [e_]
  exact ⟨_, _, rfl, ka0, ⟨_, _, rfl, ka1, ⟨_, _, rfl, ka2, ka3⟩⟩⟩
theorem split109_th (cs : List Value) (h : cs.length = 7) : cs = (cs.drop 0).take 1 ++ ((cs.drop 1).take 2 ++ ((cs.drop 3).take 4)) := by
  match cs, h with
  | [c0, c1, c2, c3, c4, c5, c6], _ => rfl
theorem opens109 : YtkkmhlfpombgfaaTh.Opens Try.prog 109 k109 wf109 := by
  intro H enc w fuel cs x h
  obtain ⟨xs, n, _, _, hl, hlen, hf⟩ := DataW.trod_struct Try.underlying109 h
  have hl2 : cs.length = 7 := hl.trans (by kernel_rfl)
  clear h hl
  have h0 : DataW.trod enc Try.prog w 0 (fun _ => true) true n 4 ((cs.drop 0).take (Try.prog.cellsOf 4)) = xs[0]? := hf 0 _ rfl
  rw [show Try.prog.cellsOf 4 = 1 from by kernel_rfl] at h0
  obtain ⟨y0, hy0⟩ := Option.isSome_iff_exists.1 (show (xs[0]?).isSome from by simp [hlen])
  rw [hy0] at h0
  obtain ⟨a0, ka0, wa0⟩ := (YtkkmhlfpombgfaaTh.opens_bool Try.underlying4) enc w n _ _ h0
  have h1 : DataW.trod enc Try.prog w 0 (fun _ => true) true n 103 ((cs.drop 1).take (Try.prog.cellsOf 103)) = xs[1]? := hf 1 _ rfl
  rw [show Try.prog.cellsOf 103 = 2 from by kernel_rfl] at h1
  obtain ⟨y1, hy1⟩ := Option.isSome_iff_exists.1 (show (xs[1]?).isSome from by simp [hlen])
  rw [hy1] at h1
  obtain ⟨a1, ka1, wa1⟩ := opens103 enc w n _ _ h1
  have h2 : DataW.trod enc Try.prog w 0 (fun _ => true) true n 107 ((cs.drop 3).take (Try.prog.cellsOf 107)) = xs[2]? := hf 2 _ rfl
  rw [show Try.prog.cellsOf 107 = 4 from by kernel_rfl] at h2
  obtain ⟨y2, hy2⟩ := Option.isSome_iff_exists.1 (show (xs[2]?).isSome from by simp [hlen])
  rw [hy2] at h2
  obtain ⟨a2, ka2, wa2⟩ := opens107 enc w n _ _ h2
  clear hf
  refine ⟨⟨a0, a1, a2⟩, ?_, ⟨wa0, wa1, wa2⟩⟩
  have e_ : cs = (cs.drop 0).take 1 ++ ((cs.drop 1).take 2 ++ ((cs.drop 3).take 4)) := by
    exact split109_th cs hl2
  rw [e_]
  exact ⟨_, _, rfl, ka0, ⟨_, _, rfl, ka1, ka2⟩⟩
theorem lr_pt {w : World} {lf lf' : Lf tau} {lt lt' : LT} {v v' : Value} (h1 : some lf' = some lf) (h2 : some lt' = some lt) (h3 : some v' = some v) (h : LR TT (Am.Safe eta0 (⟨[], []⟩ : Mem tau)) w lt' lf' v') : LR TT (Am.Safe eta0 (⟨[], []⟩ : Mem tau)) w lt lf v := by cases h1; cases h2; cases h3; exact h
theorem lr136 {w : World} {A : Option Addr} {c : Nat} {l : List S136} (h : Kd.C k136 w A l.length l) (hc : l.length ≤ c) : LR TT (Am.Safe eta0 (⟨[], []⟩ : Mem tau)) w (.sl 136) (.l 136 (l : List S136)) (.slice A l.length c) :=
 lr_of (τ := tau) (T := TT) (e := 136) (te := ⟨[.int .i64, .int .i64], .st [(0, 3), (1, 3)]⟩) rfl (fun k => safe0 k) (rows := (l : List S136)) hc (by decide) (fun j hj => by
  replace hj : j < l.length := hj
  obtain ⟨ad, cs, e1, _, hK, hc0⟩ := Kd.C_get h z136 (j : Int) (Int.natCast_nonneg j) (Int.ofNat_lt.2 hj)
  have e0 : List.getD l ((j : Int)).toNat z136 = l[j] := by rw [Int.toNat_natCast, List.getD_eq_getElem?_getD, List.getElem?_eq_getElem hj]; rfl
  rw [e0] at hK
  obtain rfl := k136_open hK
  refine ⟨ad, _, e1, rfl, fun o u hu => hc0 o u hu, rfl, fun o lf lt v h1 h2 h3 => ?_⟩
  rcases o with _ | _ | o
  · exact lr_pt h1 h2 h3 (.int _ _)
  · exact lr_pt h1 h2 h3 (.int _ _)
  · simp at h3)
theorem lr189 {w : World} {A : Option Addr} {c : Nat} {l : List S189} (h : Kd.C k189 w A l.length l) (hc : l.length ≤ c) : LR TT (Am.Safe eta0 (⟨[], []⟩ : Mem tau)) w (.sl 189) (.l 189 (l : List S189)) (.slice A l.length c) :=
 lr_of (τ := tau) (T := TT) (e := 189) (te := ⟨[.int .i64, .int .i64, .int .i64, .int .i64], .st [(0, 103), (2, 3), (3, 3)]⟩) rfl (fun k => safe0 k) (rows := (l : List S189)) hc (by decide) (fun j hj => by
  replace hj : j < l.length := hj
  obtain ⟨ad, cs, e1, _, hK, hc0⟩ := Kd.C_get h z189 (j : Int) (Int.natCast_nonneg j) (Int.ofNat_lt.2 hj)
  have e0 : List.getD l ((j : Int)).toNat z189 = l[j] := by rw [Int.toNat_natCast, List.getD_eq_getElem?_getD, List.getElem?_eq_getElem hj]; rfl
  rw [e0] at hK
  obtain rfl := k189_open hK
  refine ⟨ad, _, e1, rfl, fun o u hu => hc0 o u hu, rfl, fun o lf lt v h1 h2 h3 => ?_⟩
  rcases o with _ | _ | _ | _ | o
  · exact lr_pt h1 h2 h3 (.int _ _)
  · exact lr_pt h1 h2 h3 (.int _ _)
  · exact lr_pt h1 h2 h3 (.int _ _)
  · exact lr_pt h1 h2 h3 (.int _ _)
  · simp at h3)
theorem lr196 {w : World} {A : Option Addr} {c : Nat} {l : List S196} (h : Kd.C k196 w A l.length l) (hc : l.length ≤ c) : LR TT (Am.Safe eta0 (⟨[], []⟩ : Mem tau)) w (.sl 196) (.l 196 (l : List S196)) (.slice A l.length c) :=
 lr_of (τ := tau) (T := TT) (e := 196) (te := ⟨[.int .i64, .int .i64], .st [(0, 3), (1, 3)]⟩) rfl (fun k => safe0 k) (rows := (l : List S196)) hc (by decide) (fun j hj => by
  replace hj : j < l.length := hj
  obtain ⟨ad, cs, e1, _, hK, hc0⟩ := Kd.C_get h z196 (j : Int) (Int.natCast_nonneg j) (Int.ofNat_lt.2 hj)
  have e0 : List.getD l ((j : Int)).toNat z196 = l[j] := by rw [Int.toNat_natCast, List.getD_eq_getElem?_getD, List.getElem?_eq_getElem hj]; rfl
  rw [e0] at hK
  obtain rfl := k196_open hK
  refine ⟨ad, _, e1, rfl, fun o u hu => hc0 o u hu, rfl, fun o lf lt v h1 h2 h3 => ?_⟩
  rcases o with _ | _ | o
  · exact lr_pt h1 h2 h3 (.int _ _)
  · exact lr_pt h1 h2 h3 (.int _ _)
  · simp at h3)
theorem lr198 {w : World} {A : Option Addr} {c : Nat} {l : List S198} (h : Kd.C k198 w A l.length l) (hc : l.length ≤ c) : LR TT (Am.Safe eta0 (⟨[], []⟩ : Mem tau)) w (.sl 198) (.l 198 (l : List S198)) (.slice A l.length c) :=
 lr_of (τ := tau) (T := TT) (e := 198) (te := ⟨[.int .i64, .int .i64], .st [(0, 3), (1, 3)]⟩) rfl (fun k => safe0 k) (rows := (l : List S198)) hc (by decide) (fun j hj => by
  replace hj : j < l.length := hj
  obtain ⟨ad, cs, e1, _, hK, hc0⟩ := Kd.C_get h z198 (j : Int) (Int.natCast_nonneg j) (Int.ofNat_lt.2 hj)
  have e0 : List.getD l ((j : Int)).toNat z198 = l[j] := by rw [Int.toNat_natCast, List.getD_eq_getElem?_getD, List.getElem?_eq_getElem hj]; rfl
  rw [e0] at hK
  obtain rfl := k198_open hK
  refine ⟨ad, _, e1, rfl, fun o u hu => hc0 o u hu, rfl, fun o lf lt v h1 h2 h3 => ?_⟩
  rcases o with _ | _ | o
  · exact lr_pt h1 h2 h3 (.int _ _)
  · exact lr_pt h1 h2 h3 (.int _ _)
  · simp at h3)
theorem laws_FnExactCertApply.walk (P : laws_FnExactCertApply.Pure) (a0 : S102) (A0_1 : Option Addr) (c0_1 : Nat) (A0_2 : Option Addr) (c0_2 : Nat) (a1 : S109) (A1_3 : Option Addr) (c1_3 : Nat) (A1_4 : Option Addr) (c1_4 : Nat) (w : World) (hr0_1 : Kd.C k136 w A0_1 a0.f1.length a0.f1) (hc0_1 : a0.f1.length ≤ c0_1) (hr0_2 : Kd.C k189 w A0_2 a0.f2.length a0.f2) (hc0_2 : a0.f2.length ≤ c0_2) (w0 : wf102 a0) (hr1_3 : Kd.C k196 w A1_3 a1.f2.f0.length a1.f2.f0) (hc1_3 : a1.f2.f0.length ≤ c1_3) (hr1_4 : Kd.C k198 w A1_4 a1.f2.f1.length a1.f2.f1) (hc1_4 : a1.f2.f1.length ≤ c1_4) (w1 : wf109 a1) :
 Calls Try.prog 14 #[.agg #[.int .i64 a0.f0, .slice A0_1 a0.f1.length c0_1, .slice A0_2 a0.f2.length c0_2], .agg #[.bool a1.f0, .int .i64 a1.f1.f0, .int .i64 a1.f1.f1, .slice A1_3 a1.f2.f0.length c1_3, .slice A1_4 a1.f2.f1.length c1_4, .int .i64 a1.f2.f2, .int .i64 a1.f2.f3]] w fun e w' => e = .returned (.bool true) ∧ Below w.heap.size w w' := by
 obtain ⟨k, h⟩ := P a0 a1 w0 w1
 have hh : c_14 [.agg [.int .i64 a0.f0, .sl 136 (a0.f1 : List S136), .sl 189 (a0.f2 : List S189)], .agg [.bool a1.f0, .int .i64 a1.f1.f0, .int .i64 a1.f1.f1, .sl 196 (a1.f2.f0 : List S196), .sl 198 (a1.f2.f1 : List S198), .int .i64 a1.f2.f2, .int .i64 a1.f2.f3]] ⟨[], []⟩ isTrue = some () := callX_of (p := fun n => laws_FnExactCertApply.f n (a0.f0) (a0.f1) (a0.f2) (a1.f0) (a1.f1.f0) (a1.f1.f1) (a1.f2.f0) (a1.f2.f1) (a1.f2.f2) (a1.f2.f3)) (n := k) h (isTrue_true _)
 obtain ⟨av, m1, hk, told⟩ := okc_14 _ _ _ hh
 exact law_calls told (isTrue_some hk) (vrs_cons (vr_agg (vrs_cons (.int _ _) (vrs_cons (VR.sl _ _ _ (lr136 hr0_1 hc0_1)) (vrs_cons (VR.sl _ _ _ (lr189 hr0_2 hc0_2)) (vrs_nil))))) (vrs_cons (vr_agg (vrs_cons (.bool _) (vrs_cons (.int _ _) (vrs_cons (.int _ _) (vrs_cons (VR.sl _ _ _ (lr196 hr1_3 hc1_3)) (vrs_cons (VR.sl _ _ _ (lr198 hr1_4 hc1_4)) (vrs_cons (.int _ _) (vrs_cons (.int _ _) (vrs_nil))))))))) (vrs_nil)))
end Go.Proofs.Ytkkmhlfpombgfaa.PFnExactCertApply
-- Laid by this session's program out of the translation (lawts.py).
import Derived.Test.YtlpgpckggnimhaaDoorRows
import Derived.Test.YtlpgpckggnimhaaDoorPFnProgx3
import Derived.Test.YtlpgpckggnimhaaDoorPureFnProg
import Derived.WalkKit
import Derived.ProofKit
import Derived.OpenShut
import Derived.ShutString
import Derived.ChangeOld
import Derived.Below
import Derived.SizedLaws
import Derived.Test.YtlpgpckggnimhaaDoorSWFnProg
import Derived.Carry
import Derived.WideShapes
import Derived.Test.YtlpgpckggnimhaaDoorCards
import Derived.Test.YtlpgpckggnimhaaDoorTie
import Derived.LaidMore
import Derived.Lay
import Derived.SevenTiedAt
import Derived.Stop.Joined
import Derived.Deep.DeepHandedRow
import Derived.Lib.LaidTab
import Derived.Stop.LaidErr
namespace Go.Proofs.YtlpgpckggnimhaaDoor.fnProg
open Go.ChangeShapes Go.WideShapes Go.ChangeAt Go.RowKit Go.Proofs.YtlpgpckggnimhaaDoor.PFnProg Go.Proofs.YtlpgpckggnimhaaDoorW.PrintWords
open Go.ChangeMaps (open_string shut_string)
set_option linter.unusedVariables false
theorem own : ownKnob Tryd.prog.godebug = none := by kernel_rfl
theorem laidOut : laidOutB Tryd.prog = true := by kernel_rfl
theorem tab {W : World} (hL : laidMetH Tryd.prog Rows.fnProgRow.laid W) : Lib.TabIs Tryd.prog W powName .u64 Lib.pow10Tab := by
  rw [MakeChecks.laidMetH_plain _ _ _ (by kernel_rfl)] at hL
  have h2 : laidMet Tryd.prog ((powName, Lib.tabData .u64 Lib.pow10Tab) :: _) W := (laidMet.tail (laidMet.tail hL))
  exact Lib.tabIs_of_head (g := 1) (t := 130) (e := 119) (n := 20) (by kernel_rfl) (by kernel_rfl) Tryd.underlying130 Tryd.underlying119 (by kernel_rfl) (by kernel_rfl) h2
theorem glo {W : World} (hL : laidMetH Tryd.prog Rows.fnProgRow.laid W) (hsh : W.ShapedOpen Tryd.prog) : TT.gl W (Am.Safe Am.eta0 (⟨[], []⟩ : Am.Mem tau)) := by
  obtain ⟨m, hm⟩ : ∃ m, W.cell? ⟨0, 0, none⟩ = some (.int .i64 m) := Tryd.laysM146.s1_3 W hsh
  have hn : Tryd.prog.globalNamed powName = some 1 := by kernel_rfl
  exact ⟨⟨Am.safe0 _, Am.cell_lt hm, m, hm⟩, Am.safe0 _, Am.tab_lt hn (tab hL), hn, tab hL⟩
noncomputable def w0 (os : Os) : World := World.laidAll Tryd.prog os Rows.fnProgRow.laid
theorem witness (os : Os) {H : Type} (enc : TypeId × Value → H) : ∃ (w : World) (tape : Tape) (i : Input), w.os = os ∧ (w.forCall tape i).Shaped Tryd.checked.prog ∧ i.vars = [] ∧ Input.okWide Tryd.checked.prog (w.forCall tape i) .any w.heap.size 5 i ∧
    (OpenSpec.ofChange Rows.fnProgSpec).preRow enc Tryd.checked.prog Tryd.f5 Rows.fnProgRow.domain false Rows.fnProgRow.laid (w.forCall tape i).memory i.args ∧ ({} : Assume).holds Tryd.checked.prog (lone (Frame.enter Tryd.checked.prog 5 i.args .normal) [] (w.forCall tape i)) :=
  ChangeSpec.witness_shaped (enc := enc) (C := Tryd.checked) (os := os) (fn := Tryd.f5) (s := Rows.fnProgSpec) (conds := Rows.fnProgRow.domain) (apart := false) (X := fun w _ => laidMetH Tryd.prog Rows.fnProgRow.laid w) false (w0 os) #[.slice none 0 0, .slice none 0 0] 8 (World.laidAll_os _ _ _)
    (World.shaped_of_ZipB (by kernel_rfl) (by kernel_rfl)) (by kernel_rfl) (by kernel_rfl) (by kernel_rfl)
    (by rw [MakeChecks.laidMetH_plain _ _ _ (by kernel_rfl)]; exact laidMet_laidAll _ (by kernel_rfl) (by kernel_rfl))
set_option maxRecDepth 100000 in
theorem lifted (os : Os) (started : os.Started) (H : Type) (enc : TypeId × Value → H) :
  ReturnsInHanded {} Tryd.checked os 5 .any ((OpenSpec.ofChange Rows.fnProgSpec).preRow enc Tryd.prog Tryd.f5 Rows.fnProgRow.domain false Rows.fnProgRow.laid) (Rows.fnProgSpec.post enc Tryd.prog Tryd.f5 false true false false) := by
  refine returnsInHanded_of_row (C := Tryd.checked) (s := OpenSpec.ofChange Rows.fnProgSpec) (F := fun _ _ _ => 0) own started (by kernel_rfl) Tryd.func5 (witness os enc) ?_
  intro W base args ds gs before hval0 hW hcnd _ hsz0 hL hsh _
  have hval : ∀ (j : Nat) t v, Tryd.f5.params[j]? = some t → args[j]? = some v → Value.okWide Tryd.prog W .any base t v := hval0
  have hW' := hW
  obtain ⟨p, q, hA0, hV, rfl, hfz, hnd⟩ := hW
  have hA : DataW.TrodAll enc Tryd.prog W 0 (fun _ => true) true Tryd.f5.params.toList args.toList ds p := hA0
  rw [Tryd.params5] at hA hval
  obtain ⟨v0, vs0, d0, ds0, p0, q0, hargs, rfl, rfl, h0, r0⟩ := trodAll_cons hA
  obtain ⟨v1, vs1, d1, ds1, p1, q1, rfl, rfl, rfl, h1, r1⟩ := trodAll_cons r0
  obtain ⟨rfl, rfl, rfl⟩ := trodAll_nil r1
  obtain rfl : args = #[v0, v1] := by cases args; simp_all
  obtain ⟨rfl, rfl⟩ := trodVars_none hV
  have k0 := h0
  have lt0 : ∀ x ∈ p0, x.block < W.heap.size := by obtain ⟨m, hm⟩ := k0; exact DataW.trod_lt m _ _ _ hm
  obtain ⟨a0, len0, cap0, rfl⟩ := okWide_slice Tryd.underlying28 (hval 0 28 v0 rfl rfl)
  obtain ⟨l0, A0, c0, hr0, hc0, w0, e0⟩ : ∃ l A c, Kd.C (Kd.int .u8) W A (List.length l) l ∧ List.length l ≤ c ∧ (List.length l ≤ 9223372036854775807 ∧ ∀ y ∈ l, (Lit.int .u8 y).wf = true) ∧ (Value.slice a0 len0 cap0) = .slice A (List.length l) c := by
    obtain ⟨fuel, hf⟩ := h0
    obtain ⟨l, ⟨A, c, he, hc, hr⟩, hw⟩ := (YtlpgpckggnimhaaDoorTh.opens_slice Tryd.underlying28 (by kernel_rfl) (YtlpgpckggnimhaaDoorTh.opens_int Tryd.underlying5)) enc W fuel _ _ hf
    refine ⟨l, A, c, hr, hc, hw, ?_⟩
    simpa [Value.cells] using he
  injection e0 with ea_ en_ ec_
  subst a0 len0 cap0
  have k1 := h1
  have lt1 : ∀ x ∈ p1, x.block < W.heap.size := by obtain ⟨m, hm⟩ := k1; exact DataW.trod_lt m _ _ _ hm
  obtain ⟨a1, len1, cap1, rfl⟩ := okWide_slice Tryd.underlying28 (hval 1 28 v1 rfl rfl)
  obtain ⟨l1, A1, c1, hr1, hc1, w1, e1⟩ : ∃ l A c, Kd.C (Kd.int .u8) W A (List.length l) l ∧ List.length l ≤ c ∧ (List.length l ≤ 9223372036854775807 ∧ ∀ y ∈ l, (Lit.int .u8 y).wf = true) ∧ (Value.slice a1 len1 cap1) = .slice A (List.length l) c := by
    obtain ⟨fuel, hf⟩ := h1
    obtain ⟨l, ⟨A, c, he, hc, hr⟩, hw⟩ := (YtlpgpckggnimhaaDoorTh.opens_slice Tryd.underlying28 (by kernel_rfl) (YtlpgpckggnimhaaDoorTh.opens_int Tryd.underlying5)) enc W fuel _ _ hf
    refine ⟨l, A, c, hr, hc, hw, ?_⟩
    simpa [Value.cells] using he
  injection e1 with ea_ en_ ec_
  subst a1 len1 cap1
  clear hA0 hval0 hsz0
  refine (laws_FnProg.walk Pure.FnProg A0 c0 l0 A1 c1 l1 W hr0 hc0 w0 hr1 hc1 w1 (glo hL hsh)).mono fun e W' ⟨he, bel⟩ => ?_
  subst he
  exact ⟨_, rfl, _, _, _, [], _, [], hW', trodAll_mk1 (shut_bool Tryd.underlying4 _), (trodAll_cons_mk (Below.trod laidOut (by kernel_rfl) (of_decide_eq_true (by kernel_rfl)) k0 bel lt0) (trodAll_cons_mk (Below.trod laidOut (by kernel_rfl) (of_decide_eq_true (by kernel_rfl)) k1 bel lt1) trodAll_mk0)), rfl, bel.frame _, fun h => by cases h⟩
theorem over1 : Tryd.pinned.checked.prog.funcNamed Rows.fnProgRow.func = some 5 := by kernel_rfl
theorem and_intro {a b : Bool} (h1 : a = true) (h2 : b = true) : (a && b) = true := by rw [h1, h2]; rfl
set_option maxHeartbeats 40000000 in
theorem over2 : joinedFacts Tryd.pinned.checked.prog 5 Tryd.f5 Rows.fnProgSpec Rows.fnProgRow = true := by
  unfold joinedFacts
  repeat' with_reducible refine and_intro ?_ ?_
  all_goals decide +kernel
theorem over3 : Tryd.f5.isInstance Tryd.pinned.checked.prog Rows.fnProgRow.origin Rows.fnProgRow.targs := of_decide_eq_true (by kernel_rfl)
theorem over4 : Tryd.f5.isWrapper Tryd.pinned.checked.prog Rows.fnProgRow.wrapper Rows.fnProgRow.mainSum := by unfold Func.isWrapper; first | (rw [if_pos (by decide +kernel)]; kernel_rfl) | (rw [if_neg (by decide +kernel)]; exact ⟨rfl, rfl⟩)
theorem over : Rows.fnProgRow.holds Tryd.pinned (OpenSpec.ofChange Rows.fnProgSpec) :=
  OpenClaim.holds_of_wide 5 Tryd.f5 rfl rfl rfl rfl rfl rfl rfl ⟨rfl, rfl, rfl, rfl, rfl⟩ rfl rfl rfl rfl rfl over1 Tryd.func5 over2 over3 over4
    (fun os started H enc _ => by rw [OpenClaim.pre_eq_preRow]; exact lifted os started H enc)
theorem card : Rows.FnProgCardSaid :=
  Claim7.holds_tied_plain_at .later [] [.data, .data, .data, .data, .pinned] true (true, "66da82c8cf7cfc6377796aebfd2f0ad94072b42c4700368d289ab4118988a076") false over (fun _ h => by cases h) (by kernel_rfl) (fun _ h => by cases h) fnProg_row_tie rfl ⟨rfl, rfl⟩ (by kernel_rfl) rfl
    (fun f fn hf hfn => by
      obtain rfl : f = 5 := Option.some.inj (over1.symm.trans hf) |>.symm
      obtain rfl : fn = Tryd.f5 := (Option.some.inj (Tryd.func5.symm.trans hfn)).symm
      exact ⟨by kernel_rfl, fun j t ht => by
        rw [Tryd.params5] at ht
        have hm : t ∈ [28] := by simpa using Array.mem_of_getElem? ht
        have hall : ([28].all fun u => !Tryd.prog.wantsStandIn u) = true := by kernel_rfl
        exact (show Tryd.prog.wantsStandIn t = false by simpa using List.all_eq_true.1 hall t hm)⟩)
    (by kernel_rfl)
#print axioms card
end Go.Proofs.YtlpgpckggnimhaaDoor.fnProg
namespace Go.Proofs.YtlpgpckggnimhaaDoor
/-- The tied card, under a short name, for the claim. -/
theorem fnProg_holds : Rows.FnProgCardSaid := fnProg.card
end Go.Proofs.YtlpgpckggnimhaaDoor
/- Words of this session for seat Ytbocpmlppkdhmaa: an array of four scalars in memory and by value, indexed at a place that is not known; copy onto a row of one's own, of elements of any size. -/
import Derived.Test.YtbocpmlppkdhmaaWWords
import Derived.Test.YtbocpmlppkdhmaaWMore
import Derived.Laws.IdiomCopy
import Derived.Laws.Cells
namespace Go.Proofs.YtbocpmlppkdhmaaW.PrintLast
open Go.RowKit Go.Proofs.YtbocpmlppkdhmaaW.PrintWords Go.Proofs.YtbocpmlppkdhmaaW.PrintLast Go.Proofs.YtbocpmlppkdhmaaW.PrintMore
set_option linter.unusedVariables false
set_option linter.unusedSimpArgs false

/-- What stands at place i behind a store of v at place j. -/
def ixI (j : Int) (i : Int) (v f : Int) : Int := if j = i then v else f
def ixB (j : Int) (i : Int) (v f : Bool) : Bool := if j = i then v else f

theorem th_four_of {j : Int} (h0 : 0 ≤ j) (h1 : j < 4) : j = 0 ∨ j = 1 ∨ j = 2 ∨ j = 3 := by omega

theorem ixcellI4 {w : World} {g T : Nat} {a b c d : Int} (j : Int) (h0 : 0 ≤ j) (h1 : j < 4) (h : w.heap[g]? = some (.cells #[.int .i64 a, .int .i64 b, .int .i64 c, .int .i64 d] T (0, 0))) :
    w.cell? ⟨g, j.toNat, none⟩ = some (.int .i64 (rd [a, b, c, d] j)) := by
  rw [blk_cell h]
  rcases th_four_of h0 h1 with rfl | rfl | rfl | rfl <;> rfl
theorem ixcellB4 {w : World} {g T : Nat} {a b c d : Bool} (j : Int) (h0 : 0 ≤ j) (h1 : j < 4) (h : w.heap[g]? = some (.cells #[.bool a, .bool b, .bool c, .bool d] T (0, 0))) :
    w.cell? ⟨g, j.toNat, none⟩ = some (.bool (rdOf false [a, b, c, d] j)) := by
  rw [blk_cell h]
  rcases th_four_of h0 h1 with rfl | rfl | rfl | rfl <;> rfl
theorem ixputI4 (j v a b c d : Int) (h0 : 0 ≤ j) (h1 : j < 4) :
    (#[.int .i64 a, .int .i64 b, .int .i64 c, .int .i64 d] : Array Value).setIfInBounds j.toNat (.int .i64 v) = #[.int .i64 (ixI j 0 v a), .int .i64 (ixI j 1 v b), .int .i64 (ixI j 2 v c), .int .i64 (ixI j 3 v d)] := by
  rcases th_four_of h0 h1 with rfl | rfl | rfl | rfl <;> simp [ixI]
theorem ixputB4 (j : Int) (v a b c d : Bool) (h0 : 0 ≤ j) (h1 : j < 4) :
    (#[.bool a, .bool b, .bool c, .bool d] : Array Value).setIfInBounds j.toNat (.bool v) = #[.bool (ixB j 0 v a), .bool (ixB j 1 v b), .bool (ixB j 2 v c), .bool (ixB j 3 v d)] := by
  rcases th_four_of h0 h1 with rfl | rfl | rfl | rfl <;> simp [ixB]

section
variable {P : Program} {T E : TypeId}
theorem agxI4 (hu : P.underlying T = some (.array 4 E)) (he : P.underlying E = some (.int .i64)) (hs : (P.info? E).map (·.size) = some 1) (a b c d j : Int) (h0 : 0 ≤ j) (h1 : j < 4) :
    ∀ W : World, (Instr.index T (.agg #[.int .i64 a, .int .i64 b, .int .i64 c, .int .i64 d]) (.int .i64 j)).run P W = .ok (.int .i64 (rd [a, b, c, d] j)) W := by
  intro W
  obtain ⟨i, hi, hsz⟩ := Option.map_eq_some_iff.1 hs
  rcases th_four_of h0 h1 with rfl | rfl | rfl | rfl <;> simp [Instr.index, asIntOf, run_underlying hu, run_underlying he, part, isAgg, sizeOf, typeInfo, hi, hsz, rd]
theorem agxB4 (hu : P.underlying T = some (.array 4 E)) (he : P.underlying E = some .bool) (hs : (P.info? E).map (·.size) = some 1) (a b c d : Bool) (j : Int) (h0 : 0 ≤ j) (h1 : j < 4) :
    ∀ W : World, (Instr.index T (.agg #[.bool a, .bool b, .bool c, .bool d]) (.int .i64 j)).run P W = .ok (.bool (rdOf false [a, b, c, d] j)) W := by
  intro W
  obtain ⟨i, hi, hsz⟩ := Option.map_eq_some_iff.1 hs
  rcases th_four_of h0 h1 with rfl | rfl | rfl | rfl <;> simp [Instr.index, asIntOf, run_underlying hu, run_underlying he, part, isAgg, sizeOf, typeInfo, hi, hsz, rdOf]
end

/-- copy, of elements of any size: all is read before anything is written. -/
theorem run_copy_sized {P : Program} (w : World) (dT sT ty elem : TypeId) (b o dLen dCap : Nat) (a : Addr) (sLen sCap size : Nat) (cs : List Value)
    (hu : P.underlying dT = some (.slice elem)) (hs : (P.info? elem).map (·.size) = some size) (hn : cs.length = Nat.min sLen dLen * size)
    (hsrc : ∀ j v, cs[j]? = some v → w.cell? (a.add j) = some v) (hc : ∀ j, j < cs.length → (w.cell? ⟨b, o + j, none⟩).isSome = true) (hf : ∀ j, j < cs.length → w.frozen? ⟨b, o + j, none⟩ = false) (h1 : ∀ v ∈ cs, v.oneCell' = true) :
    (Builtin.copy_ #[dT, sT] ty #[.slice (some ⟨b, o, none⟩) dLen dCap, .slice (some a) sLen sCap]).run P w = .ok (goInt (Nat.min sLen dLen)) (w.setCells b o cs) := by
  have hl := run_loadCells_list (P := P) w a cs hsrc
  have hst := run_storeCells_cells (P := P) b o cs 0 w (by simpa using hc) (by simpa using hf) h1
  obtain ⟨i, hq, hi⟩ := Option.map_eq_some_iff.1 hs
  simp [Builtin.copy_, run_underlying hu, Builtin.lenOf, Builtin.firstCells, sizeOf, typeInfo, hq, hi, ← hn, hl, hst]

section
variable {P : Program} {ops : Array Oper} {rest : List Oper} {o : Oper} {a : Act} {Q : Exit → Act → World → Prop} {α : Type}
/-- copy(v, ys), v a row of one's own that is as long: it holds ys then. -/
theorem copy_event (d : Kd α) {w0 W : World} (base : Nat) (hgd : o.guard = none) {N : Tmp} (_hd : o.dst = some N) (s x : Operand) (t t' e : TypeId)
    (ho : o.op = .call { callee := .builtin .copy, args := #[s, x], argTypes := #[t, t'] }) (ht : P.underlying t = some (.slice e)) (hinfo : (P.info? e).map (·.size) = some d.sz) (hs0 : 0 < d.sz)
    (v : Value) (xs ys : List α) (A : Option Addr) (c : Nat) (ok : Nat → Prop) (hs : a.eval s = v) (hx : a.eval x = .slice A ys.length c)
    (HO : d.R e W base ok v xs) (HR : d.C W A ys.length ys) (hlen : xs.length = ys.length) (hpos : 0 < ys.length) (hKM : ∀ w' x cs, d.K w' x cs → ∀ w1 base1 ok1, d.M w1 base1 ok1 x cs) (HB : Below base w0 W)
    (h : ∀ w1, d.R e w1 base ok v ys → Below base w0 w1 → wpList P ops Q rest (a.put o.dst (.int .i64 (ys.length : Int))) w1) :
    wpList P ops Q (o :: rest) a W := by
  obtain ⟨hok, inner0, hown, hr0⟩ := HO
  obtain ⟨ad, hA, _⟩ := HR.2.2 hpos
  subst hA
  obtain ⟨news, hnr, hnc⟩ := ReadsRow.inner_ HR
  rcases hown.2 with ⟨_, hx0⟩ | ⟨g, cap, cur, hv, hb, hh, hnc2, hcm, hcs, htake⟩
  · omega
  have hnl : news.length = ys.length * d.sz := hnr.1
  have hfit : ys.length * d.sz ≤ cur.size := by rw [hcs]; exact Nat.mul_le_mul_right _ (by omega)
  have hone : ∀ u ∈ news, u.oneCell' = true := by
    intro u hu
    obtain ⟨q, hq, rfl⟩ := List.mem_iff_getElem.1 hu
    have hql : q / d.sz < ys.length := by
      rw [Nat.div_lt_iff_lt_mul hs0]
      rw [← hnl]
      exact hq
    have hc := hnr.2 (q / d.sz) _ (List.getElem?_eq_getElem hql)
    refine d.K_one hc _ ?_
    rw [List.mem_iff_getElem?]
    refine ⟨q % d.sz, ?_⟩
    rw [List.getElem?_take, if_pos (Nat.mod_lt _ hs0), List.getElem?_drop, Nat.mul_comm, Nat.div_add_mod, List.getElem?_eq_getElem hq]
  have hmin : Nat.min ys.length xs.length = ys.length := by rw [hlen]; exact Nat.min_self _
  have hr := run_copy_sized (P := P) W t t' o.type e g 0 xs.length cap ad ys.length c d.sz news ht hinfo (by rw [hmin]; exact hnl) hnc
    (fun j hj => by rw [cell_of_row W g _ cur e (0, 0) hh]; simp; omega) (fun j _ => blk_frozen hh _) hone
  rw [hmin] at hr
  obtain ⟨cur', h3, h4, h5⟩ := setCells_row news 0 W cur hh (by omega)
  obtain ⟨s1, s2, s3, s4⟩ := setCells_same g news 0 W
  have hg : W.grownBy (W.setCells g 0 news) (some g) := ⟨s1, s2, s3, by rw [s4]; exact Nat.le_refl _, fun k _ hk => setCells_far _ _ k (fun he => hk (by rw [he]))⟩
  refine wpList_plain hgd fun K hK => ?_
  unfold Oper.wp execOp
  simp only [ho, resolve, invoke, builtin, Sem.run_bind, Sem.run_pure, Result.andThen_ok, List.map_toArray, List.map_cons, List.map_nil, hs, hx, hv, hr]
  refine hK _ _ (h _ ⟨hok, news, ?_, hnr.imp_ (fun p c hp => hKM _ _ _ hp _ _ _)⟩ ?_)
  · refine ⟨hnl, .inr ⟨g, cap, cur', by rw [hv, hlen], hb, h3, by omega, hcm, by rw [h4, hcs], ?_⟩⟩
    rw [h5, List.take_zero, List.nil_append, Nat.zero_add, ← hnl, List.take_left]
  · exact HB.trans ⟨s1, s2, s3, by rw [s4]; exact Nat.le_refl _, fun k hk => setCells_far _ _ k (by omega)⟩
end
end Go.Proofs.YtbocpmlppkdhmaaW.PrintLast
namespace Go.Proofs.YtbocpmlppkdhmaaW.PrintLast
open Go.RowKit Go.Proofs.YtbocpmlppkdhmaaW.PrintWords
section
variable {P : Program} {ops : Array Oper} {Q : Exit → Act → World → Prop} {S : World → Prop} {md : Region.Mode} {ds : List Nat}
/-- The steps of a region, the list of what is done not written out. -/
theorem pu_ {i : Nat} {N : Option Tmp} {oi : Oper} {v : Value} {fuel : Nat} {l : Array Bool} {a : Act} {w : World} (hi : ops[i]? = some oi) (hN : oi.dst = N) (hc : anyB md ops l (l.setIfInBounds i true) i = true)
    (hQ : ∀ c a w, Q (.panic c) (a.put oi.dst v) w → Q (.panic c) a w) (hy : Yields P ops oi v a) {a' : Act} (ha : a.put N v = a')
    (h : wpAnyLast P md ops Q S ds fuel (l.setIfInBounds i true) a' w) : wpAnyLast P md ops Q S ds (fuel + 1) l a w := pure_ _ hi hN hc hQ hy ha h
theorem ta_ {i : Nat} {N : Option Tmp} {oi : Oper} {v : Value} {fuel : Nat} {l : Array Bool} {a : Act} {w : World} (hi : ops[i]? = some oi) (hN : oi.dst = N) (hc : takeB md ops ds l (l.setIfInBounds i true) i = true)
    (hQ : ∀ c a w, Q (.panic c) (a.put oi.dst v) w → Q (.panic c) a w) (hy : YieldsIf P ops S oi v a) (hS : S w) {a' : Act} (ha : a.put N v = a')
    (h : wpAnyLast P md ops Q S ds fuel (l.setIfInBounds i true) a' w) : wpAnyLast P md ops Q S ds (fuel + 1) l a w := take_ _ hi hN hc hQ hy hS ha h
theorem on_ {i : Nat} {N : Option Tmp} {oi : Oper} {fuel : Nat} {l : Array Bool} {a : Act} {w : World} (hi : ops[i]? = some oi) (hN : oi.dst = N) (hc : readyB md ops l (l.setIfInBounds i true) i = true) (hd : i ∉ ds)
    (h : ∀ K : Act → World → Prop, Shut (∀ a' w', S w' → (S w' → wpAnyLast P md ops Q S ds fuel (l.setIfInBounds i true) a' w') → K a' w') → if Region.wanted oi (yielded ops a.tmps) = true then Oper.wp P oi a w K Q else K (a.put N undef) w) :
    wpAnyLast P md ops Q S ds (fuel + 1) l a w := one_ _ hi hN hc hd h
end
theorem sA_ {α : Type} (l : List α) (i : Nat) (a : α) : l.toArray.setIfInBounds i a = (l.set i a).toArray := List.setIfInBounds_toArray l i a
theorem sZ_ {α : Type} (x : α) (xs : List α) (a : α) : (x :: xs).set 0 a = a :: xs := List.set_cons_zero
theorem sS_ {α : Type} (x : α) (xs : List α) (n : Nat) (a : α) : (x :: xs).set (n + 1) a = x :: xs.set n a := List.set_cons_succ
end Go.Proofs.YtbocpmlppkdhmaaW.PrintLast

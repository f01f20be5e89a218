/- A region whose order Go leaves open, in which three calls stand in a chain and three variables are made at any time between them. -/
import Derived.Test.YtidgomppehhkgaaRg
set_option linter.unusedVariables false
set_option linter.unusedSimpArgs false
namespace Go.Proofs.Ytidgomppehhkgaa
open Go.RowKit

/-- A state of the frame: some slots hold something else. -/
def ov (f : Nat → Option Value) (a : Act) : Act := { a with tmps := a.tmps.mapIdx fun i v => (f i).getD v }
theorem ov_put (f : Nat → Option Value) (a : Act) (d : Nat) (v : Value) : (ov f a).put (some d) v = ov (fun s => if s = d then some v else f s) a := by
  unfold ov Act.put
  simp only [Act.mk.injEq, and_true]
  apply Array.ext_getElem?
  intro i
  rw [Array.getElem?_setIfInBounds, Array.getElem?_mapIdx, Array.getElem?_mapIdx]
  by_cases h : d = i
  · subst h
    simp only [if_pos, if_true, Array.size_mapIdx]
    by_cases h2 : d < a.tmps.size
    · simp [h2]
    · simp [h2]
  · rw [if_neg h, if_neg (fun e => h e.symm)]
theorem ov_eval (f : Nat → Option Value) (a : Act) (t : Nat) (h : f t = none) : (ov f a).eval (.tmp t) = a.eval (.tmp t) := by
  unfold ov Act.eval
  simp only [Array.getD_eq_getD_getElem?, Array.getElem?_mapIdx, h]
  cases a.tmps[t]? <;> rfl
theorem ov_put0 (a : Act) : ov (fun _ => none) a = a := by
  unfold ov
  have : (a.tmps.mapIdx fun i v => (none : Option Value).getD v) = a.tmps := by
    apply Array.ext_getElem?
    intro i
    rw [Array.getElem?_mapIdx]
    cases a.tmps[i]? <;> rfl
  simp only [this]
theorem wp_call2 {o : Oper} {a : Act} {w : World} {K : Act → World → Prop} {Q : Exit → Act → World → Prop} (y1 y2 : Operand) (f : FuncId) (ats : Array TypeId) (ho : o.op = Op.call { callee := Callee.value (Operand.func f), args := #[y1, y2], argTypes := ats })
    {v1 v2 v : Value} (h1 : a.eval y1 = v1) (h2 : a.eval y2 = v2) (hcf : (callFunc f #[v1, v2]).run Try.prog w = .ok (.enter f #[v1, v2]) w) (hc : Calls Try.prog f #[v1, v2] w fun e w' => e = .returned v ∧ Below w.heap.size w w') (h : ∀ w', Below w.heap.size w w' → K (a.put o.dst v) w') : o.wp Try.prog a w K Q := by
  have hr : (execOp a.eval o).run Try.prog w = .ok (.enter f #[v1, v2]) w := by
    have hf : a.eval (Operand.func f) = .func (.func f) #[] #[] := rfl
    unfold execOp
    simp only [ho, resolve, invoke, hf, List.map_toArray, List.map_cons, List.map_nil, h1, h2, Deferred.ofValue, Sem.run_bind, Sem.run_pure, Result.andThen_ok]
    exact hcf
  unfold Oper.wp
  rw [hr, Oper.upon_enter]
  refine hc.mono fun e w'' hh => ?_
  obtain ⟨rfl, hb⟩ := hh
  exact h _ hb
theorem wp_alloc_var {o : Oper} {a : Act} {w : World} {K : Act → World → Prop} {Q : Exit → Act → World → Prop} (t : TypeId) (ho : o.op = Op.alloc t) (cs : Array Value) (hz : (zeroValue t).run Try.prog w = .ok (.agg cs) w)
    (h : K (a.put o.dst (.pointer (some ⟨w.heap.size, 0, none⟩))) (w.alloc (.cells cs t (0, 0)))) : o.wp Try.prog a w K Q := by
  have hr : (execOp a.eval o).run Try.prog w = .ok (.value (.pointer (some ⟨w.heap.size, 0, none⟩))) (w.alloc (.cells cs t (0, 0))) := by
    unfold execOp
    simp [ho, hz, go_sem]
  unfold Oper.wp
  rw [hr]
  exact h
/-- Whatever comes up leads from one of the states J to another; when n operations have come up, the walk goes on. -/
theorem wpAnyS_states {P : Program} {ops : Array Oper} {Q : Exit → Act → World → Prop} {md : Region.Mode} {S : World → Prop} (J : Nat → Array Bool → Act → World → Prop) {f0 : Nat}
    (h0 : ∀ listed a w, J 0 listed a w → wpAnyS S P md ops Q f0 listed a w)
    (hs : ∀ n listed a w, J (n + 1) listed a w → ∃ l, Region.ready md ops listed = l ∧ l ≠ [] ∧ ∀ i ∈ l, ∃ oi, ops[i]? = some oi ∧ Region.wanted oi (yielded ops a.tmps) = true ∧
      ∀ K : Act → World → Prop, Hid (∀ a' w', S w' → J n (listed.setIfInBounds i true) a' w' → K a' w') → Oper.wp P oi a w K Q) :
    ∀ n listed a w, J n listed a w → wpAnyS S P md ops Q (f0 + n) listed a w
  | 0, listed, a, w, h => h0 listed a w h
  | n + 1, listed, a, w, h => by
    obtain ⟨l, hr, hne, hall⟩ := hs n listed a w h
    refine wpAnyH_all hr hne fun i hi => ?_
    obtain ⟨oi, hoi, hw, hk⟩ := hall i hi
    unfold wpOp
    simp only [hoi, hw, if_true]
    exact .inl (hk _ (fun a' w' h1 h2 => ⟨h1, wpAnyS_states J h0 hs n _ a' w' h2⟩))
theorem wpAnyS_use {P : Program} {ops : Array Oper} {Q : Exit → Act → World → Prop} {md : Region.Mode} {S : World → Prop} {a0 : Act} {l0 : Array Bool} {w0 : World} {f0 n0 : Nat} (J : Act → Array Bool → Nat → Array Bool → Act → World → Prop)
    (hi : J a0 l0 n0 l0 a0 w0)
    (hs : ∀ n listed a w, J a0 l0 (n + 1) listed a w → ∃ l, Region.ready md ops listed = l ∧ l ≠ [] ∧ ∀ i ∈ l, ∃ oi, ops[i]? = some oi ∧ Region.wanted oi (yielded ops a.tmps) = true ∧
      ∀ K : Act → World → Prop, Hid (∀ a' w', S w' → J a0 l0 n (listed.setIfInBounds i true) a' w' → K a' w') → Oper.wp P oi a w K Q)
    (h0 : ∀ listed a w, J a0 l0 0 listed a w → wpAnyS S P md ops Q f0 listed a w) : wpAnyS S P md ops Q (f0 + n0) l0 a0 w0 :=
  wpAnyS_states (J a0 l0) h0 hs n0 l0 a0 w0 hi
end Go.Proofs.Ytidgomppehhkgaa

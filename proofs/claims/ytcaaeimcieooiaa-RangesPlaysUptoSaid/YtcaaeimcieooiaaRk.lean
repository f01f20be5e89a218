/- A region whose order Go leaves open: whichever comes up next. -/
import Derived.Test.YtcaaeimcieooiaaRg
set_option linter.unusedVariables false
set_option linter.unusedSimpArgs false
namespace Go.Proofs.Ytcaaeimcieooiaa
open Go.RowKit
section
variable {P : Program} {ops : Array Oper} {Q : Exit → Act → World → Prop} {md : Region.Mode} {S : World → Prop}
theorem wpAnyS_fork1 {i : Nat} {oi : Oper} {fuel : Nat} {listed : Array Bool} {a : Act} {w : World} (hr : Region.ready md ops listed = [i]) (hi : ops[i]? = some oi) (hwi : Region.wanted oi (yielded ops a.tmps) = true)
    (h1 : ∀ K : Act → World → Prop, Hid (∀ a' w', S w' → wpAnyS S P md ops Q fuel (listed.setIfInBounds i true) a' w' → K a' w') → Oper.wp P oi a w K Q) : wpAnyS S P md ops Q (fuel + 1) listed a w := wpAnyS_one hi hr hwi h1
theorem wpAnyS_fork2 {i j : Nat} {oi oj : Oper} {fuel : Nat} {listed : Array Bool} {a : Act} {w : World} (hr : Region.ready md ops listed = [i, j]) (hi : ops[i]? = some oi) (hwi : Region.wanted oi (yielded ops a.tmps) = true) (hj : ops[j]? = some oj) (hwj : Region.wanted oj (yielded ops a.tmps) = true)
    (h1 : ∀ K : Act → World → Prop, Hid (∀ a' w', S w' → wpAnyS S P md ops Q fuel (listed.setIfInBounds i true) a' w' → K a' w') → Oper.wp P oi a w K Q)
    (h2 : ∀ K : Act → World → Prop, Hid (∀ a' w', S w' → wpAnyS S P md ops Q fuel (listed.setIfInBounds j true) a' w' → K a' w') → Oper.wp P oj a w K Q) : wpAnyS S P md ops Q (fuel + 1) listed a w := by
  refine wpAnyH_all hr (by simp) fun q hq => ?_
  simp only [List.mem_cons, List.not_mem_nil, or_false] at hq
  rcases hq with rfl | rfl
  · unfold wpOp; simp only [hi, hwi, if_true]; exact .inl (h1 _ fun a' w' h0 h => ⟨h0, h⟩)
  · unfold wpOp; simp only [hj, hwj, if_true]; exact .inl (h2 _ fun a' w' h0 h => ⟨h0, h⟩)
theorem wpAnyS_fork3 {i j k : Nat} {oi oj ok : Oper} {fuel : Nat} {listed : Array Bool} {a : Act} {w : World} (hr : Region.ready md ops listed = [i, j, k]) (hi : ops[i]? = some oi) (hwi : Region.wanted oi (yielded ops a.tmps) = true) (hj : ops[j]? = some oj) (hwj : Region.wanted oj (yielded ops a.tmps) = true) (hk : ops[k]? = some ok) (hwk : Region.wanted ok (yielded ops a.tmps) = true)
    (h1 : ∀ K : Act → World → Prop, Hid (∀ a' w', S w' → wpAnyS S P md ops Q fuel (listed.setIfInBounds i true) a' w' → K a' w') → Oper.wp P oi a w K Q)
    (h2 : ∀ K : Act → World → Prop, Hid (∀ a' w', S w' → wpAnyS S P md ops Q fuel (listed.setIfInBounds j true) a' w' → K a' w') → Oper.wp P oj a w K Q)
    (h3 : ∀ K : Act → World → Prop, Hid (∀ a' w', S w' → wpAnyS S P md ops Q fuel (listed.setIfInBounds k true) a' w' → K a' w') → Oper.wp P ok a w K Q) : wpAnyS S P md ops Q (fuel + 1) listed a w := by
  refine wpAnyH_all hr (by simp) fun q hq => ?_
  simp only [List.mem_cons, List.not_mem_nil, or_false] at hq
  rcases hq with rfl | rfl | rfl
  · unfold wpOp; simp only [hi, hwi, if_true]; exact .inl (h1 _ fun a' w' h0 h => ⟨h0, h⟩)
  · unfold wpOp; simp only [hj, hwj, if_true]; exact .inl (h2 _ fun a' w' h0 h => ⟨h0, h⟩)
  · unfold wpOp; simp only [hk, hwk, if_true]; exact .inl (h3 _ fun a' w' h0 h => ⟨h0, h⟩)
end
theorem wp_alloc_var {o : Oper} {a : Act} {w : World} {K : Act → World → Prop} {Q : Exit → Act → World → Prop} (t : TypeId) (ho : o.op = Op.alloc t) (cs : Array Value) (hz : (zeroValue t).run Try.prog w = .ok (.agg cs) w)
    (h : K (a.put o.dst (.pointer (some ⟨w.heap.size, 0, none⟩))) (w.alloc (.cells cs t (0, 0)))) : o.wp Try.prog a w K Q := by
  have hr : (execOp a.eval o).run Try.prog w = .ok (.value (.pointer (some ⟨w.heap.size, 0, none⟩))) (w.alloc (.cells cs t (0, 0))) := by
    unfold execOp
    simp [ho, hz, go_sem]
  unfold Oper.wp
  rw [hr]
  exact h
theorem wp_alloc_at {o : Oper} {a : Act} {w : World} {K : Act → World → Prop} {Q : Exit → Act → World → Prop} (d : Option Tmp) (t : TypeId) (ho : o.op = Op.alloc t) (hd : o.dst = d) (cs : Array Value) (hz : (zeroValue t).run Try.prog w = .ok (.agg cs) w)
    (h : K (a.put d (.pointer (some ⟨w.heap.size, 0, none⟩))) (w.alloc (.cells cs t (0, 0)))) : o.wp Try.prog a w K Q := by
  subst hd; exact wp_alloc_var t ho cs hz h
end Go.Proofs.Ytcaaeimcieooiaa

/- A region whose order Go leaves open, in which a fact on memory stands till some late operations come up. -/
import Derived.Test.YtcaaeimcieooiaaRg
set_option linter.unusedVariables false
set_option linter.unusedSimpArgs false
namespace Go.Proofs.Ytcaaeimcieooiaa
open Go.RowKit

section
variable {P : Program} {ops : Array Oper} {Q : Exit → Act → World → Prop} {md : Region.Mode} {S : World → Prop} {L : List Nat}

/-- In whatever order; each operation but the late ones keeps S. -/
def wpAnyL (S : World → Prop) (L : List Nat) (P : Program) (md : Region.Mode) (ops : Array Oper) (Q : Exit → Act → World → Prop) : Nat → Array Bool → Act → World → Prop
  | 0, listed, a, w => Region.ready md ops listed = [] ∧ Q .normal a w
  | fuel + 1, listed, a, w =>
    (Region.ready md ops listed = [] → Q .normal a w) ∧
    ∀ i ∈ Region.ready md ops listed, wpOp P ops Q i (fun a' w' => (i ∉ L → S w → S w') ∧ wpAnyL S L P md ops Q fuel (listed.setIfInBounds i true) a' w') a w

theorem wpAny_of_L : ∀ (fuel : Nat) (listed : Array Bool) (a : Act) (w : World), wpAnyL S L P md ops Q fuel listed a w → wpAny P md ops Q fuel listed a w
  | 0, _, _, _, h => h
  | fuel + 1, _, _, _, h => ⟨h.1, fun i hi => wpOp_mono (fun a' w' h' => wpAny_of_L fuel _ a' w' h'.2) (h.2 i hi)⟩

/-- R: what is known of the world as long as i has not come up. -/
theorem wpAnyL_first {i : Nat} {oi : Oper} {v : Value} (R : World → Prop) (hi : ops[i]? = some oi) (hsel : ∀ (j : Nat) (o : Oper) cs b, ops[j]? = some o → o.op ≠ .select cs b)
    (hQ : ∀ c a w, Q (.panic c) (a.put oi.dst v) w → Q (.panic c) a w)
    (hR : ∀ listed : Array Bool, ClosedL md ops listed → i ∈ Region.ready md ops listed → ∀ j ∈ Region.ready md ops listed, j ≠ i → ∀ w w', R w → (j ∉ L → S w → S w') → R w') :
    ∀ (fuel : Nat) (listed : Array Bool) (a : Act) (w : World), ClosedL md ops listed →
      (∀ j oj, ops[j]? = some oj → j ≠ i → listed.getD j true = false → (∀ e ∈ oj.after, Region.binds md e = true → e.on ≠ i) → oi.apart ops oj = true) →
      i ∈ Region.ready md ops listed → R w → YieldsIf P ops R oi v a →
      wpAnyL S L P md ops Q fuel (listed.setIfInBounds i true) (a.put oi.dst v) w → wpAnyL S L P md ops Q (fuel + 1) listed a w := by
  intro fuel
  induction fuel with
  | zero =>
    intro listed a w _ _ hr hw hy H
    refine ⟨fun h => (by rw [h] at hr; cases hr), fun j hj => ?_⟩
    by_cases hji : j = i
    · subst hji; exact YieldsIf.wpOp hi hy hw ⟨fun _ h => h, H⟩
    · have := ready_mono hj hji
      rw [H.1] at this
      cases this
  | succ fuel ih =>
    intro listed a w hcl hfree hr hw hy H
    refine ⟨fun h => (by rw [h] at hr; cases hr), fun j hj => ?_⟩
    by_cases hji : j = i
    · subst hji; exact YieldsIf.wpOp hi hy hw ⟨fun _ h => h, H⟩
    · have h1 := H.2 j (ready_mono hj hji)
      obtain ⟨hjun, oj, hoj, hall⟩ := mem_ready.1 hj
      have hiun : listed.getD i false = false := by
        have h0 := (mem_ready.1 hr).1
        rcases Nat.lt_or_ge i listed.size with h' | h'
        · simp [h'] at h0 ⊢; exact h0
        · simp [Array.getElem?_eq_none h'] at h0
      have hnot : ∀ e ∈ oj.after, Region.binds md e = true → e.on ≠ i := fun e he hb heq => by
        have h1 := hall e he hb
        rw [heq, hiun] at h1; cases h1
      have h2 := wpOp_putIf hoj (hfree j oj hoj hji hjun hnot) (fun cs b => hsel i oi cs b hi) (fun cs b => hsel j oj cs b hoj) hQ hy h1
      have hfree' : ∀ k ok, ops[k]? = some ok → k ≠ i → (listed.setIfInBounds j true).getD k true = false →
          (∀ e ∈ ok.after, Region.binds md e = true → e.on ≠ i) → oi.apart ops ok = true := fun k ok hk hki hun hno => by
        refine hfree k ok hk hki ?_ hno
        by_cases hjk : j = k
        · subst hjk; exact hjun
        · rw [getD_set_ne true hjk] at hun; exact hun
      refine wpOp_mono (fun a' w' h3 => ⟨h3.2.1, ih (listed.setIfInBounds j true) a' w' (hcl.step hj) hfree' (ready_mono hr (Ne.symm hji)) (hR listed hcl hr j hj hji w w' hw h3.2.1) h3.1 ?_⟩) h2
      rw [Array.setIfInBounds_comm _ _ hji]
      exact h3.2.2

/-- An operation that looks at no memory. -/
theorem wpAnyL_pure {i : Nat} {oi : Oper} {v : Value} {fuel : Nat} {listed : Array Bool} {a : Act} {w : World} (hcl : ClosedL md ops listed) (d : Option Tmp) (hi : ops[i]? = some oi) (hd : oi.dst = d)
    (hs : Region.noSelect ops = true) (hf : Region.free md ops listed i = true) (hr : (Region.ready md ops listed).contains i = true)
    (hQ : ∀ c a w, Q (.panic c) (a.put oi.dst v) w → Q (.panic c) a w)
    (hy : (Region.wanted oi (yielded ops a.tmps) = true ∧ ∀ w' : World, True → (execOp a.eval oi).run P w' = .ok (.value v) w') ∨ (Region.wanted oi (yielded ops a.tmps) = false ∧ v = undef))
    (h : ClosedL md ops (listed.setIfInBounds i true) → wpAnyL S L P md ops Q fuel (listed.setIfInBounds i true) (a.put d v) w) : wpAnyL S L P md ops Q (fuel + 1) listed a w := by
  subst hd
  exact wpAnyL_first (fun _ => True) hi (Region.noSelect_spec hs) hQ (fun _ _ _ _ _ _ _ _ _ _ => trivial) fuel listed a w hcl (Region.free_spec hi hf) (by simpa using hr) trivial hy (h (hcl.step (by simpa using hr)))

/-- An operation that comes up ahead of all late ones. -/
theorem wpAnyL_take {i : Nat} {oi : Oper} {v : Value} {fuel : Nat} {listed : Array Bool} {a : Act} {w : World} (hcl : ClosedL md ops listed) (hS : S w) (d : Option Tmp) (hi : ops[i]? = some oi) (hd : oi.dst = d)
    (hs : Region.noSelect ops = true) (hf : Region.free md ops listed i = true) (hr : (Region.ready md ops listed).contains i = true)
    (hQ : ∀ c a w, Q (.panic c) (a.put oi.dst v) w → Q (.panic c) a w) (hif : (L.all fun f => i != f && before md ops i ops.size f) = true)
    (hy : (Region.wanted oi (yielded ops a.tmps) = true ∧ ∀ w', S w' → (execOp a.eval oi).run P w' = .ok (.value v) w') ∨ (Region.wanted oi (yielded ops a.tmps) = false ∧ v = undef))
    (h : ClosedL md ops (listed.setIfInBounds i true) → wpAnyL S L P md ops Q fuel (listed.setIfInBounds i true) (a.put d v) w) : wpAnyL S L P md ops Q (fuel + 1) listed a w := by
  subst hd
  simp only [List.all_eq_true, Bool.and_eq_true, bne_iff_ne] at hif
  refine wpAnyL_first S hi (Region.noSelect_spec hs) hQ (fun li hc hir j hj hji w w' hw hw' => hw' (fun hm => ?_) hw) fuel listed a w hcl (Region.free_spec hi hf) (by simpa using hr) hS hy (h (hcl.step (by simpa using hr)))
  obtain ⟨_, oj, hoj, hall⟩ := mem_ready.1 hj
  have hl := before_listed hc ops.size j (hif j hm).2 (fun ok hok e he hb => by rw [hoj] at hok; cases hok; exact hall e he hb)
  have h0 := (mem_ready.1 hir).1
  rcases Nat.lt_or_ge i li.size with h' | h'
  · simp [h'] at h0 hl; rw [h0] at hl; cases hl
  · simp [Array.getElem?_eq_none h'] at hl

/-- One operation alone may come up, not a late one. -/
theorem wpAnyL_one {i : Nat} {oi : Oper} {fuel : Nat} {listed : Array Bool} {a : Act} {w : World} (hcl : ClosedL md ops listed) (hi : ops[i]? = some oi) (hr : Region.ready md ops listed = [i])
    (hw : Region.wanted oi (yielded ops a.tmps) = true)
    (h : ClosedL md ops (listed.setIfInBounds i true) → ∀ K : Act → World → Prop, Hid (∀ a' w', (S w → S w') → wpAnyL S L P md ops Q fuel (listed.setIfInBounds i true) a' w' → K a' w') → Oper.wp P oi a w K Q) : wpAnyL S L P md ops Q (fuel + 1) listed a w := by
  refine ⟨fun h0 => absurd (hr.symm.trans h0) (by simp), fun j hj => ?_⟩
  have hjj := hj
  rw [hr] at hj
  obtain rfl := List.mem_singleton.1 hj
  unfold wpOp
  simp only [hi, hw, if_true]
  exact .inl (h (hcl.step hjj) _ (fun a' w' h1 h2 => ⟨fun _ => h1, h2⟩))
/-- Two may come up, each in its turn. -/
theorem wpAnyL_fork2 {i j : Nat} {oi oj : Oper} {fuel : Nat} {listed : Array Bool} {a : Act} {w : World} (hcl : ClosedL md ops listed) (hr : Region.ready md ops listed = [i, j]) (hi : ops[i]? = some oi) (hwi : Region.wanted oi (yielded ops a.tmps) = true) (hj : ops[j]? = some oj) (hwj : Region.wanted oj (yielded ops a.tmps) = true)
    (h1 : ClosedL md ops (listed.setIfInBounds i true) → ∀ K : Act → World → Prop, Hid (∀ a' w', (S w → S w') → wpAnyL S L P md ops Q fuel (listed.setIfInBounds i true) a' w' → K a' w') → Oper.wp P oi a w K Q)
    (h2 : ClosedL md ops (listed.setIfInBounds j true) → ∀ K : Act → World → Prop, Hid (∀ a' w', (S w → S w') → wpAnyL S L P md ops Q fuel (listed.setIfInBounds j true) a' w' → K a' w') → Oper.wp P oj a w K Q) : wpAnyL S L P md ops Q (fuel + 1) listed a w := by
  refine ⟨fun h0 => absurd (hr.symm.trans h0) (by simp), fun q hq => ?_⟩
  have hqq := hq
  rw [hr] at hq
  simp only [List.mem_cons, List.not_mem_nil, or_false] at hq
  rcases hq with rfl | rfl
  · unfold wpOp; simp only [hi, hwi, if_true]; exact .inl (h1 (hcl.step hqq) _ fun a' w' h1 h2 => ⟨fun _ => h1, h2⟩)
  · unfold wpOp; simp only [hj, hwj, if_true]; exact .inl (h2 (hcl.step hqq) _ fun a' w' h1 h2 => ⟨fun _ => h1, h2⟩)
/-- .. a late one. -/
theorem wpAnyL_late {i : Nat} {oi : Oper} {fuel : Nat} {listed : Array Bool} {a : Act} {w : World} (hcl : ClosedL md ops listed) (hi : ops[i]? = some oi) (hr : Region.ready md ops listed = [i])
    (hw : Region.wanted oi (yielded ops a.tmps) = true) (hiL : L.contains i = true)
    (h : ClosedL md ops (listed.setIfInBounds i true) → ∀ K : Act → World → Prop, Hid (∀ a' w', wpAnyL S L P md ops Q fuel (listed.setIfInBounds i true) a' w' → K a' w') → Oper.wp P oi a w K Q) : wpAnyL S L P md ops Q (fuel + 1) listed a w := by
  refine ⟨fun h0 => absurd (hr.symm.trans h0) (by simp), fun j hj => ?_⟩
  have hjj := hj
  rw [hr] at hj
  obtain rfl := List.mem_singleton.1 hj
  unfold wpOp
  simp only [hi, hw, if_true]
  exact .inl (h (hcl.step hjj) _ (fun a' w' h1 => ⟨fun hn _ => absurd (by simpa using hiL) hn, h1⟩))

theorem wpAnyL_done {listed : Array Bool} {a : Act} {w : World} (hr : Region.ready md ops listed = []) (h : Q .normal a w) : ∀ fuel, wpAnyL S L P md ops Q fuel listed a w
  | 0 => ⟨hr, h⟩
  | _ + 1 => ⟨fun _ => h, by rw [hr]; simp⟩
theorem wp_region_L (S : World → Prop) (L : List Nat) {id : Nat} {a : Act} {w : World} (hm : P.follows .mixedOrders = true)
    (h : ClosedL .any ops (Array.replicate ops.size false) → wpAnyL S L P .any ops Q ops.size (Array.replicate ops.size false) a w.drew) : (Code.region id ops true).wp P Q a w := by
  refine wp_region_any hm (wpAny_of_L _ _ _ _ (h fun j oj hj hl => ?_))
  have hjs : j < ops.size := (Array.getElem?_eq_some_iff.1 hj).1
  simp [hjs] at hl
end
end Go.Proofs.Ytcaaeimcieooiaa

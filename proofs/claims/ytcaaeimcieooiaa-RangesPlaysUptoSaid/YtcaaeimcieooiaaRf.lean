/- A region whose order Go leaves open, in which each operation but one (a store, which stands behind all others) only reads, or makes new memory. -/
import Derived.Test.YtcaaeimcieooiaaRe
set_option linter.unusedVariables false
set_option linter.unusedSimpArgs false
namespace Go.Proofs.Ytcaaeimcieooiaa
open Go.RowKit

section
variable {P : Program} {ops : Array Oper} {Q : Exit → Act → World → Prop} {md : Region.Mode}

/-- What is listed, all of whose forerunners are listed. -/
def ClosedL (md : Region.Mode) (ops : Array Oper) (listed : Array Bool) : Prop :=
  ∀ (j : Nat) (oj : Oper), ops[j]? = some oj → listed.getD j true = true → ∀ e ∈ oj.after, Region.binds md e = true → listed.getD e.on false = true
/-- Operation i stands before operation j. -/
def before (md : Region.Mode) (ops : Array Oper) (i : Nat) : Nat → Nat → Bool
  | 0, _ => false
  | n + 1, j => match ops[j]? with
    | some oj => oj.after.any fun e => Region.binds md e && (e.on == i || before md ops i n e.on)
    | none => false

theorem before_listed {i : Nat} {listed : Array Bool} (hc : ClosedL md ops listed) : ∀ (n j : Nat), before md ops i n j = true → (∀ oj, ops[j]? = some oj → ∀ e ∈ oj.after, Region.binds md e = true → listed.getD e.on false = true) → listed.getD i false = true
  | 0, j, h, _ => by cases h
  | n + 1, j, h, ha => by
    unfold before at h
    cases hj : ops[j]? with
    | none => rw [hj] at h; cases h
    | some oj =>
      rw [hj] at h
      simp only [Array.any_eq_true, Bool.and_eq_true, Bool.or_eq_true, beq_iff_eq] at h
      obtain ⟨k, hk, hb, h | h⟩ := h
      · rw [← h]; exact ha oj hj _ (Array.getElem_mem hk) hb
      · have hl := ha oj hj _ (Array.getElem_mem hk) hb
        refine before_listed hc n _ h fun ok hok e he hbe => ?_
        refine hc _ ok hok ?_ e he hbe
        rcases Nat.lt_or_ge (oj.after[k].on) listed.size with h' | h'
        · simp [h'] at hl ⊢; exact hl
        · simp [Array.getElem?_eq_none h'] at hl

theorem ClosedL.step {i : Nat} {listed : Array Bool} (hc : ClosedL md ops listed) (hi : i ∈ Region.ready md ops listed) : ClosedL md ops (listed.setIfInBounds i true) := by
  intro j oj hj hl e he hb
  have up : ∀ k, listed.getD k false = true → (listed.setIfInBounds i true).getD k false = true := fun k hk => by
    by_cases h : i = k
    · subst h
      rcases Nat.lt_or_ge i listed.size with h' | h'
      · simp [h']
      · simp [Array.getElem?_eq_none h'] at hk
    · rw [getD_set_ne false h]; exact hk
  by_cases h : i = j
  · subst h
    obtain ⟨_, oi, hoi, hall⟩ := mem_ready.1 hi
    rw [hoi] at hj; cases hj
    exact up _ (hall e he hb)
  · rw [getD_set_ne true h] at hl
    exact up _ (hc j oj hj hl e he hb)

/-- In whatever order; each operation but the last leads to a later world. -/
def wpAnyF (P : Program) (md : Region.Mode) (ops : Array Oper) (fin : Nat) (Q : Exit → Act → World → Prop) : Nat → Array Bool → Act → World → Prop
  | 0, listed, a, w => Region.ready md ops listed = [] ∧ Q .normal a w
  | fuel + 1, listed, a, w =>
    (Region.ready md ops listed = [] → Q .normal a w) ∧
    ∀ i ∈ Region.ready md ops listed, wpOp P ops Q i (fun a' w' => (i ≠ fin → Ext w w') ∧ wpAnyF P md ops fin Q fuel (listed.setIfInBounds i true) a' w') a w

theorem wpAny_of_F {fin : Nat} : ∀ (fuel : Nat) (listed : Array Bool) (a : Act) (w : World), wpAnyF P md ops fin Q fuel listed a w → wpAny P md ops Q fuel listed a w
  | 0, _, _, _, h => h
  | fuel + 1, _, _, _, h => ⟨h.1, fun i hi => wpOp_mono (fun a' w' h' => wpAny_of_F fuel _ a' w' h'.2) (h.2 i hi)⟩

theorem wpAnyF_first {fin i : Nat} {oi : Oper} {v : Value} (hi : ops[i]? = some oi) (hsel : ∀ (j : Nat) (o : Oper) cs b, ops[j]? = some o → o.op ≠ .select cs b)
    (hQ : ∀ c a w, Q (.panic c) (a.put oi.dst v) w → Q (.panic c) a w) (hif : i ≠ fin) {nf : Nat} (hbf : before md ops i nf fin = true) :
    ∀ (fuel : Nat) (listed : Array Bool) (a : Act) (w : World), ClosedL md ops listed →
      (∀ j oj, ops[j]? = some oj → j ≠ i → listed.getD j true = false → (∀ e ∈ oj.after, Region.binds md e = true → e.on ≠ i) → oi.apart ops oj = true) →
      i ∈ Region.ready md ops listed → YE P ops w oi v a →
      wpAnyF P md ops fin Q fuel (listed.setIfInBounds i true) (a.put oi.dst v) w → wpAnyF P md ops fin Q (fuel + 1) listed a w := by
  intro fuel
  induction fuel with
  | zero =>
    intro listed a w _ _ hr hy H
    refine ⟨fun h => (by rw [h] at hr; cases hr), fun j hj => ?_⟩
    by_cases hji : j = i
    · subst hji; exact YieldsIf.wpOp hi hy (Ext.refl w) ⟨fun _ => Ext.refl w, H⟩
    · have := ready_mono hj hji
      rw [H.1] at this
      cases this
  | succ fuel ih =>
    intro listed a w hcl hfree hr hy H
    refine ⟨fun h => (by rw [h] at hr; cases hr), fun j hj => ?_⟩
    by_cases hji : j = i
    · subst hji; exact YieldsIf.wpOp hi hy (Ext.refl w) ⟨fun _ => Ext.refl w, H⟩
    · have h1 := H.2 j (ready_mono hj hji)
      obtain ⟨hjun, oj, hoj, hall⟩ := mem_ready.1 hj
      have hiun : listed.getD i false = false := by
        have h0 := (mem_ready.1 hr).1
        rcases Nat.lt_or_ge i listed.size with h' | h'
        · simp [h'] at h0 ⊢; exact h0
        · simp [Array.getElem?_eq_none h'] at h0
      have hjf : j ≠ fin := fun hjf => by
        subst hjf
        have := before_listed hcl nf j hbf (fun ok hok e he hb => by rw [hoj] at hok; cases hok; exact hall e he hb)
        rw [hiun] at this; cases this
      have hnot : ∀ e ∈ oj.after, Region.binds md e = true → e.on ≠ i := fun e he hb heq => by
        have h1 := hall e he hb
        rw [heq, hiun] at h1; cases h1
      have h2 := wpOp_putIf hoj (hfree j oj hoj hji hjun hnot) (fun cs b => hsel i oi cs b hi) (fun cs b => hsel j oj cs b hoj) hQ hy h1
      have hfree' : ∀ k ok, ops[k]? = some ok → k ≠ i → (listed.setIfInBounds j true).getD k true = false →
          (∀ e ∈ ok.after, Region.binds md e = true → e.on ≠ i) → oi.apart ops ok = true := fun k ok hk hki hun hno => by
        refine hfree k ok hk hki ?_ hno
        by_cases hjk : j = k
        · subst hjk; exact hjun
        · rw [getD_set_ne true hjk] at hun; exact hun
      refine wpOp_mono (fun a' w' h3 => ⟨h3.2.1, ih (listed.setIfInBounds j true) a' w' (hcl.step hj) hfree' (ready_mono hr (Ne.symm hji)) ?_ ?_⟩) h2
      · exact YE.later (w := w) h3.1 (h3.2.1 hjf)
      · rw [Array.setIfInBounds_comm _ _ hji]
        exact h3.2.2

theorem wpAnyF_take {fin i : Nat} {oi : Oper} {v : Value} {fuel : Nat} {listed : Array Bool} {a : Act} {w : World} (hcl : ClosedL md ops listed) (d : Option Tmp) (hi : ops[i]? = some oi) (hd : oi.dst = d)
    (hs : Region.noSelect ops = true) (hf : Region.free md ops listed i = true) (hr : (Region.ready md ops listed).contains i = true)
    (hQ : ∀ c a w, Q (.panic c) (a.put oi.dst v) w → Q (.panic c) a w) (hif : (i != fin && before md ops i ops.size fin) = true)
    (hy : (Region.wanted oi (yielded ops a.tmps) = true ∧ ∀ w', Ext w w' → (execOp a.eval oi).run P w' = .ok (.value v) w') ∨ (Region.wanted oi (yielded ops a.tmps) = false ∧ v = undef))
    (h : ClosedL md ops (listed.setIfInBounds i true) → wpAnyF P md ops fin Q fuel (listed.setIfInBounds i true) (a.put d v) w) : wpAnyF P md ops fin Q (fuel + 1) listed a w := by
  subst hd
  simp only [Bool.and_eq_true, bne_iff_ne] at hif
  exact wpAnyF_first hi (Region.noSelect_spec hs) hQ hif.1 hif.2 fuel listed a w hcl (Region.free_spec hi hf) (by simpa using hr) hy (h (hcl.step (by simpa using hr)))

/-- One operation alone may come up. -/
theorem wpAnyF_one {fin i : Nat} {oi : Oper} {fuel : Nat} {listed : Array Bool} {a : Act} {w : World} (hcl : ClosedL md ops listed) (hi : ops[i]? = some oi) (hr : Region.ready md ops listed = [i])
    (hw : Region.wanted oi (yielded ops a.tmps) = true)
    (h : ClosedL md ops (listed.setIfInBounds i true) → ∀ K : Act → World → Prop, Hid (∀ a' w', Ext w w' → wpAnyF P md ops fin Q fuel (listed.setIfInBounds i true) a' w' → K a' w') → Oper.wp P oi a w K Q) : wpAnyF P md ops fin Q (fuel + 1) listed a w := by
  refine ⟨fun h0 => absurd (hr.symm.trans h0) (by simp), fun j hj => ?_⟩
  have hjj := hj
  rw [hr] at hj
  obtain rfl := List.mem_singleton.1 hj
  unfold wpOp
  simp only [hi, hw, if_true]
  exact .inl (h (hcl.step hjj) _ (fun a' w' h1 h2 => ⟨fun _ => h1, h2⟩))

/-- The last one. -/
theorem wpAnyF_last {fin : Nat} {oi : Oper} {fuel : Nat} {listed : Array Bool} {a : Act} {w : World} (hi : ops[fin]? = some oi) (hr : Region.ready md ops listed = [fin]) (hr2 : Region.ready md ops (listed.setIfInBounds fin true) = [])
    (hw : Region.wanted oi (yielded ops a.tmps) = true)
    (h : ∀ K : Act → World → Prop, Hid (∀ a' w', Q .normal a' w' → K a' w') → Oper.wp P oi a w K Q) : wpAnyF P md ops fin Q (fuel + 1) listed a w := by
  refine ⟨fun h0 => absurd (hr.symm.trans h0) (by simp), fun j hj => ?_⟩
  rw [hr] at hj
  obtain rfl := List.mem_singleton.1 hj
  unfold wpOp
  simp only [hi, hw, if_true]
  refine .inl (h _ (fun a' w' h1 => ⟨fun h => absurd rfl h, ?_⟩))
  cases fuel with
  | zero => exact ⟨hr2, h1⟩
  | succ n => exact ⟨fun _ => h1, by rw [hr2]; simp⟩

theorem closed_none (n : Nat) : ClosedL md ops (Array.replicate n false) → True := fun _ => trivial
theorem wp_region_F {id : Nat} {a : Act} {w : World} (fin : Nat) (hm : P.follows .mixedOrders = true)
    (h : ClosedL .any ops (Array.replicate ops.size false) → wpAnyF P .any ops fin Q ops.size (Array.replicate ops.size false) a w.drew) : (Code.region id ops true).wp P Q a w := by
  refine wp_region_any hm (wpAny_of_F _ _ _ _ (h fun j oj hj hl => ?_))
  have hjs : j < ops.size := (Array.getElem?_eq_some_iff.1 hj).1
  simp [hjs] at hl

end
end Go.Proofs.Ytcaaeimcieooiaa

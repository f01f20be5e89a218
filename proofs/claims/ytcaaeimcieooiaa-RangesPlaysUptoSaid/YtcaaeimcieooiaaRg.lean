/- A region whose order Go leaves open, in which no operation but the stores looks at memory, and the stores stand in a row. -/
import Derived.Test.YtcaaeimcieooiaaRf
set_option linter.unusedVariables false
set_option linter.unusedSimpArgs false
namespace Go.Proofs.Ytcaaeimcieooiaa
open Go.RowKit

section
variable {P : Program} {ops : Array Oper} {Q : Exit → Act → World → Prop} {md : Region.Mode}

/-- In whatever order. -/
def wpAnyT (P : Program) (md : Region.Mode) (ops : Array Oper) (Q : Exit → Act → World → Prop) : Nat → Array Bool → Act → World → Prop := wpAnyH P md ops Q (fun _ => True)

theorem wpAnyT_take {i : Nat} {oi : Oper} {v : Value} {fuel : Nat} {listed : Array Bool} {a : Act} {w : World} (d : Option Tmp) (hi : ops[i]? = some oi) (hd : oi.dst = d)
    (hs : Region.noSelect ops = true) (hf : Region.free md ops listed i = true) (hr : (Region.ready md ops listed).contains i = true)
    (hQ : ∀ c a w, Q (.panic c) (a.put oi.dst v) w → Q (.panic c) a w)
    (hy : (Region.wanted oi (yielded ops a.tmps) = true ∧ ∀ w' : World, True → (execOp a.eval oi).run P w' = .ok (.value v) w') ∨ (Region.wanted oi (yielded ops a.tmps) = false ∧ v = undef))
    (h : wpAnyT P md ops Q fuel (listed.setIfInBounds i true) (a.put d v) w) : wpAnyT P md ops Q (fuel + 1) listed a w := by
  subst hd
  exact wpAnyH_take hi hs hf hr hQ hy trivial h

/-- One operation alone may come up. -/
theorem wpAnyT_one {i : Nat} {oi : Oper} {fuel : Nat} {listed : Array Bool} {a : Act} {w : World} (hi : ops[i]? = some oi) (hr : Region.ready md ops listed = [i])
    (hw : Region.wanted oi (yielded ops a.tmps) = true)
    (h : ∀ K : Act → World → Prop, Hid (∀ a' w', wpAnyT P md ops Q fuel (listed.setIfInBounds i true) a' w' → K a' w') → Oper.wp P oi a w K Q) : wpAnyT P md ops Q (fuel + 1) listed a w := by
  refine wpAnyH_all hr (by simp) fun j hj => ?_
  obtain rfl := List.mem_singleton.1 hj
  unfold wpOp
  simp only [hi, hw, if_true]
  exact .inl (h _ (fun a' w' h1 => ⟨trivial, h1⟩))

theorem wpAnyT_done {listed : Array Bool} {a : Act} {w : World} (hr : Region.ready md ops listed = []) (h : Q .normal a w) (fuel : Nat) : wpAnyT P md ops Q fuel listed a w := wpAnyH_done hr h fuel

theorem wp_region_T {id : Nat} {a : Act} {w : World} (hm : P.follows .mixedOrders = true)
    (h : wpAnyT P .any ops Q ops.size (Array.replicate ops.size false) a w.drew) : (Code.region id ops true).wp P Q a w := wp_region_held hm h

/-- In whatever order, S stands all the while. -/
def wpAnyS (S : World → Prop) (P : Program) (md : Region.Mode) (ops : Array Oper) (Q : Exit → Act → World → Prop) : Nat → Array Bool → Act → World → Prop := wpAnyH P md ops Q S
variable {S : World → Prop}
theorem wpAnyS_take {i : Nat} {oi : Oper} {v : Value} {fuel : Nat} {listed : Array Bool} {a : Act} {w : World} (hS : S w) (d : Option Tmp) (hi : ops[i]? = some oi) (hd : oi.dst = d)
    (hs : Region.noSelect ops = true) (hf : Region.free md ops listed i = true) (hr : (Region.ready md ops listed).contains i = true)
    (hQ : ∀ c a w, Q (.panic c) (a.put oi.dst v) w → Q (.panic c) a w)
    (hy : (Region.wanted oi (yielded ops a.tmps) = true ∧ ∀ w' : World, S w' → (execOp a.eval oi).run P w' = .ok (.value v) w') ∨ (Region.wanted oi (yielded ops a.tmps) = false ∧ v = undef))
    (h : wpAnyS S P md ops Q fuel (listed.setIfInBounds i true) (a.put d v) w) : wpAnyS S P md ops Q (fuel + 1) listed a w := by
  subst hd
  exact wpAnyH_take hi hs hf hr hQ hy hS h
theorem wpAnyS_one {i : Nat} {oi : Oper} {fuel : Nat} {listed : Array Bool} {a : Act} {w : World} (hi : ops[i]? = some oi) (hr : Region.ready md ops listed = [i])
    (hw : Region.wanted oi (yielded ops a.tmps) = true)
    (h : ∀ K : Act → World → Prop, Hid (∀ a' w', S w' → wpAnyS S P md ops Q fuel (listed.setIfInBounds i true) a' w' → K a' w') → Oper.wp P oi a w K Q) : wpAnyS S P md ops Q (fuel + 1) listed a w := by
  refine wpAnyH_all hr (by simp) fun j hj => ?_
  obtain rfl := List.mem_singleton.1 hj
  unfold wpOp
  simp only [hi, hw, if_true]
  exact .inl (h _ (fun a' w' h0 h1 => ⟨h0, h1⟩))
theorem wpAnyS_done {listed : Array Bool} {a : Act} {w : World} (hr : Region.ready md ops listed = []) (h : Q .normal a w) (fuel : Nat) : wpAnyS S P md ops Q fuel listed a w := wpAnyH_done hr h fuel
theorem wp_region_S (S : World → Prop) {id : Nat} {a : Act} {w : World} (hm : P.follows .mixedOrders = true)
    (h : wpAnyS S P .any ops Q ops.size (Array.replicate ops.size false) a w.drew) : (Code.region id ops true).wp P Q a w := wp_region_held hm h
end

/-- 'append' of bytes onto a slice of the call's own (as one operation). -/
theorem wp_apB {w : World} {o : Oper} {a : Act} {K : Act → World → Prop} {Q : Exit → Act → World → Prop}
    (s x : Operand) (hop : o.op = Op.call { callee := Callee.builtin Builtin.append, args := #[s, x], argTypes := #[56, 56] })
    {B : Nat} {v vx : Value} {xs ys : List UInt8} (hs : a.eval s = v) (hown : OwB B w v xs) (hx : a.eval x = vx) (hsrc : SlB w vx ys) (hne : ys ≠ [])
    (hlen : xs.length + ys.length ≤ 140737488355328) (hB : B ≤ w.heap.size)
    (hK : ∀ v' w', OwB B w' v' (xs ++ ys) → Below B w w' → K (a.put o.dst v') w') : o.wp Try.prog a w K Q := by
  obtain ⟨A, c, rfl, hc, hcm, hA, hr⟩ := hsrc
  obtain ⟨i, hi, hz0, hz1, hz2⟩ := info_parts info8
  cases A with
  | none =>
    have := hr.none_
    cases ys with
    | nil => exact absurd rfl hne
    | cons y l => simp [bs] at this
  | some ad =>
    refine wp_append_own w s x 56 hop B 5 i _ 1 1 Try.underlying56 hi hz0 hz1 hz2 rfl (by decide) v xs.length (bs xs) hs hown ad ys.length c (bs ys) hx (by simp [bs]) hr.some_ (bs_one _) (by unfold maxLen; omega) (by omega) hB ?_
    intro v' w' ho hgr _
    refine hK v' w' ?_ (Below.grown (Below.refl _ _) hgr hB (fun k hk => (World.ownsRow.lt hown k hk).1))
    unfold OwB; rw [List.length_append, bs_append]; exact ho
end Go.Proofs.Ytcaaeimcieooiaa

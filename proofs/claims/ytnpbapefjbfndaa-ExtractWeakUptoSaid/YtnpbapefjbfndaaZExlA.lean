/- A byte in new memory, and what is put behind it. -/
import Derived.Test.YtnpbapefjbfndaaZExlI
import Derived.ArgAppend
import Derived.Deep.Upon
set_option linter.unusedVariables false
set_option linter.unusedSimpArgs false
set_option maxRecDepth 10000
namespace Go.Proofs.Ytnpbapefjbfndaa
open Go.RowKit

theorem wp_b0_at (d : Option Tmp) {o : Oper} {a : Act} {w : World} {K : Act → World → Prop} {Q : Exit → Act → World → Prop} (ho : o.op = .buildSlice 23 1 #[(0, .const (.int .u8 0))]) (hd : o.dst = d)
    (h : ∀ g W', SlB W' (.slice (some ⟨g, 0, none⟩) 1 1) [0] → Ext w W' → K (a.put d (.slice (some ⟨g, 0, none⟩) 1 1)) W') : o.wp Try.prog a w K Q := by
  subst hd
  have hr : (Instr.buildSlice 23 1 #[(0, .int .u8 0)]).run Try.prog w = .ok (.slice (some ⟨w.heap.size, 0, none⟩) 1 1) (w.alloc (.cells #[.int .u8 0] 5)) := by
    obtain ⟨i, hi, hz0, hz1, hz2⟩ := info_parts info8
    refine run_buildSlice w 23 5 1 #[(0, .int .u8 0)] _ i _ Try.underlying23 hi hz0 (by rw [hz1]; decide) (by rw [hz1]; decide) ?_
    rw [hz1]; kernel_rfl
  unfold Oper.wp execOp
  simp only [ho, List.map_toArray, List.map_cons, List.map_nil, Act.eval, Sem.run_bind, hr, Result.andThen_ok]
  exact h _ _ (own_one w 0 w.heap.size (Nat.le_refl _)).sl (ext_alloc _ _)
theorem wp_ap1_at (d : Option Tmp) {w : World} {o : Oper} {a : Act} {K : Act → World → Prop} {Q : Exit → Act → World → Prop}
    (s x : Operand) (hop : o.op = Op.call { callee := Callee.builtin Builtin.append, args := #[s, x], argTypes := #[23, 23] }) (hd : o.dst = d)
    {g : Nat} {y : UInt8} {vx : Value} {ys : List UInt8} (hs : a.eval s = .slice (some ⟨g, 0, none⟩) 1 1) (hown : SlB w (.slice (some ⟨g, 0, none⟩) 1 1) [y]) (hx : a.eval x = vx) (hsrc : SlB w vx ys) (hlen : ys.length ≤ 1099511627776)
    (hK : ∀ v' w', SlB w' v' (y :: ys) → Ext w w' → K (a.put d v') w') : o.wp Try.prog a w K Q := by
  subst hd
  obtain ⟨A, c, rfl, hc, hcm, hA, hr⟩ := hsrc
  obtain ⟨A0, c0, e0, _, _, _, hr0⟩ := id hown
  injection e0 with e1 e2 e3
  subst e1
  obtain ⟨i, hi, hz0, hz1, hz2⟩ := info_parts info8
  by_cases h0 : ys.length = 0
  · obtain rfl : ys = [] := List.eq_nil_of_length_eq_zero h0
    have hsrc : Src Try.prog i.size 23 (.slice A 0 c) 0 [] w := by
      cases A with
      | none => exact Src.ofNil w Try.underlying23 c
      | some ad => exact Src.ofSlice w Try.underlying23 ad 0 c [] (by simp) (fun j u h => by cases h) (fun u h => by cases h)
    have hrun := run_append_nothing (P := Try.prog) w 23 23 o.type 5 i Try.underlying23 hi (some ⟨g, 0, none⟩) 1 1 (Nat.le_refl _) _ hsrc
    unfold Oper.wp execOp
    simp only [hop, resolve, invoke, builtin, Sem.run_bind, Sem.run_pure, Result.andThen_ok, List.map_toArray, List.map_cons, List.map_nil, hs, hx]
    rw [show (Value.slice A ([] : List UInt8).length c) = .slice A 0 c from rfl, hrun]
    exact hK _ _ hown (Ext.refl _)
  · cases A with
    | none => have := hr.none_; rw [← bs_length, this] at h0; exact absurd rfl h0
    | some ad =>
      obtain ⟨v', w', hrun, ho, hgr⟩ := run_append_arg_grows (P := Try.prog) (w := w) 23 o.type 5 i _ 1 1 Try.underlying23 hi hz0 hz1 hz2 rfl (by decide) ⟨g, 0, none⟩ 1 1 (bs [y]) rfl hr0.some_ ad ys.length c (bs ys) (by simp [bs]) hr.some_ (by omega) (by unfold maxLen; omega) (by omega)
      unfold Oper.wp execOp
      simp only [hop, resolve, invoke, builtin, Sem.run_bind, Sem.run_pure, Result.andThen_ok, List.map_toArray, List.map_cons, List.map_nil, hs, hx]
      rw [hrun]
      have ho' : OwB w.heap.size w' v' (y :: ys) := by
        unfold OwB; rw [List.length_cons, Nat.add_comm]; exact ho
      exact hK _ _ ho'.sl (Below.grown (Below.refl _ _) hgr (Nat.le_refl _) (fun k hk => by cases hk))
end Go.Proofs.Ytnpbapefjbfndaa

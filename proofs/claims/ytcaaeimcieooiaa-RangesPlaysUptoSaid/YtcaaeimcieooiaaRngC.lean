/- slices.Clone of digests; Peaks (walks). -/
import Derived.Test.YtcaaeimcieooiaaRngA
import Derived.Test.YtcaaeimcieooiaaRngB
set_option linter.unusedVariables false
set_option linter.unusedSimpArgs false
set_option maxRecDepth 10000
namespace Go.Proofs.Ytcaaeimcieooiaa
open Go.RowKit
attribute [local go_sem high] dg_cells guard_dg

set_option maxHeartbeats 2000000 in
theorem clone_any (v : Value) (ds : List (List UInt8)) (w : World) (h : SlD w v ds) (hl : ds.length ≤ 1048576) :
    Calls Try.prog 23 #[v] w fun e w' => ∃ v', e = .returned v' ∧ OwD w.heap.size w' v' ds ∧ Below w.heap.size w w' := by
  obtain ⟨⟨A, c, rfl, hc, hcm, hA, hr⟩, h32⟩ := id h
  cases A with
  | none =>
    obtain rfl : c = 0 := hA rfl
    have h0 : ds.length = 0 := by omega
    obtain rfl : ds = [] := List.eq_nil_of_length_eq_zero h0
    change Calls _ _ #[.slice none 0 0] _ _
    have q : ∀ w', (binOp .eql 30 (.slice none 0 0) (.slice none 0 0)).run Try.prog w' = .ok (.bool true) w' := fun w' => by kernel_rfl
    have g : ∀ x y w', (eqGuard .eql 30 x y (.slice none 0 0) (.slice none 0 0)).run Try.prog w' = .ok () w' := fun x y w' => by kernel_rfl
    go_enter Try.func23, Try.ntmps23
    go_wp2_with fail
    go_ret
    refine ⟨.slice none 0 0, ?_, OwD.nil _ _, Below.refl _ _⟩
    rfl
  | some ad =>
    have q : ∀ w', (binOp .eql 30 (.slice (some ad) ds.length c) (.slice none 0 0)).run Try.prog w' = .ok (.bool false) w' := fun w' => by kernel_rfl
    go_enter Try.func23, Try.ntmps23
    have e1 := ext_alloc w (.cells #[] 29)
    have o1 : OwD w.heap.size (w.alloc (.cells #[] 29)) (.slice (some ⟨w.heap.size, 0, none⟩) 0 0) [] :=
      ⟨World.ownsRow_lit (base := w.heap.size) (e := 29) (size := 32) w #[] 0 (Nat.le_refl _) (by decide) rfl, fun d hd => by cases hd⟩
    have h1 := h.below e1
    go_wp2_with (at_builtin; go_loud (refine wpl_apD (B := w.heap.size) rfl _ _ rfl rfl o1 rfl h1 (by simp; omega) e1.size ?_))
    intro v3 w3 h3 _ b3
    go_wp2_with fail
    go_ret
    exact ⟨_, rfl, h3, Below.trans e1 b3⟩
theorem peaks_nil (w : World) : Calls Try.prog 12 #[.pointer none] w fun e w' => e = .returned (.slice none 0 0) ∧ w = w' := by
  go_enter Try.func12, Try.ntmps12
  go_wp2_with fail
  refine (none_nil _).mono ?_; rintro e w1 ⟨rfl, rfl⟩
  go_wp2_with fail
  go_ret
  exact ⟨rfl, rfl⟩
theorem peaks_at {w : World} {p n : Nat} {v : Value} {ds : List (List UInt8)} (h : RgAt w p n v true) (hv : SlD w v ds) (hl : ds.length ≤ 1048576) :
    Calls Try.prog 12 #[ptr p] w fun e w' => ∃ v', e = .returned v' ∧ OwD w.heap.size w' v' ds ∧ Below w.heap.size w w' := by
  have c := h.c1.1
  go_enter Try.func12, Try.ntmps12
  go_wp2_with fail
  refine (none_at h).mono ?_; rintro e w1 ⟨rfl, rfl⟩
  go_wp2_with fail
  refine (clone_any v ds w hv hl).mono ?_; rintro e w2 ⟨v2, rfl, o2, b2⟩
  go_wp2_with fail
  go_ret
  exact ⟨_, rfl, o2, b2⟩
theorem peaks_zero {w : World} {p n : Nat} {v : Value} (h : RgAt w p n v false) :
    Calls Try.prog 12 #[ptr p] w fun e w' => e = .returned (.slice none 0 0) ∧ w = w' := by
  go_enter Try.func12, Try.ntmps12
  go_wp2_with fail
  refine (none_at h).mono ?_; rintro e w1 ⟨rfl, rfl⟩
  go_wp2_with fail
  go_ret
  exact ⟨rfl, rfl⟩
end Go.Proofs.Ytcaaeimcieooiaa

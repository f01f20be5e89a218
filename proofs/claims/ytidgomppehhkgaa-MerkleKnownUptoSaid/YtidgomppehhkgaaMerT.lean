/- Sub of the program and of the reference (walks). -/
import Derived.Test.YtidgomppehhkgaaMerS
set_option linter.unusedVariables false
set_option linter.unusedSimpArgs false
namespace Go.Proofs.Ytidgomppehhkgaa
open Go.RowKit
attribute [local go_sem high] dg_cells rs_l rs_lh rs_lhm rs_h rs_hm rs_all

def subL (ds : List (List UInt8)) (f t : Int) : List UInt8 := if f < 0 ∨ t ≤ f ∨ ds.length < t then zer else rootL ((ds.drop f.toNat).take (t.toNat - f.toNat))
def subE (ds : List (List UInt8)) (f t : Int) : Int := if f < 0 ∨ t ≤ f ∨ ds.length < t then 1 else 0
set_option maxRecDepth 10000 in
set_option maxHeartbeats 4000000 in
theorem sub_any (v : Value) (ds : List (List UInt8)) (f t : Int) (w : World) (hl : ds.length ≤ 1048576) (hv : SlD w v ds) :
    Calls Try.prog 9 #[v, .int .i64 f, .int .i64 t] w fun e w' => e = .returned (.tuple #[dg (subL ds f t), .int .i64 (subE ds f t)]) ∧ Below w.heap.size w w' := by
  have r0 : RowT 25 (w.alloc (.cells (bs zer).toArray 25 (0, 0))) w.heap.size zer := heap_alloc_new _ _
  have b0 := ext_alloc w (.cells (bs zer).toArray 25 (0, 0))
  have hv0 := hv.below b0
  obtain ⟨⟨A, c, rfl, hc, hcm, hA, hrr⟩, h32⟩ := hv
  have hretz := arr_dg.loadVar r0 zer_length
  by_cases hbad : f < 0 ∨ t ≤ f ∨ ds.length < t
  · have p1 : subL ds f t = zer := if_pos hbad
    have p2 : subE ds f t = 1 := if_pos hbad
    rw [p1, p2]
    clear p1 p2
    go_enter Try.func9, Try.ntmps9
    go_wp2_with ((with_reducible refine at_store ?_); refine arr_dg.store_newL zer_length rfl zer_length _ _ rfl rfl rfl ?_)
    all_goals
      refine ret_cell2 (v := dg zer) Try.results9 ?_ hretz ?_ ?_
      · rfl
      · rfl
      · refine ⟨?_, b0⟩
        rfl
  · have p1 : subL ds f t = rootL ((ds.drop f.toNat).take (t.toNat - f.toNat)) := if_neg hbad
    have p2 : subE ds f t = 0 := if_neg hbad
    rw [p1, p2]
    clear p1 p2 hretz
    obtain ⟨k1, k2, k3⟩ : 0 ≤ f ∧ f < t ∧ t ≤ ds.length := by omega
    clear hbad
    obtain ⟨f, rfl⟩ : ∃ n : Nat, f = n := ⟨f.toNat, by omega⟩
    obtain ⟨t, rfl⟩ : ∃ n : Nat, t = n := ⟨t.toNat, by omega⟩
    have q1 : decide ((f : Int) < 0) = false := decide_eq_false (by omega)
    have q2 : decide ((t : Int) ≤ f) = false := decide_eq_false (by omega)
    have q3 : decide ((ds.length : Int) < t) = false := decide_eq_false (by omega)
    have k4 : (t : Int) ≤ c := by omega
    have k5 : (f : Int) ≤ t := by omega
    have hS := (hv0.slice f t (by omega) (by omega)).cap (t - f) (Nat.le_refl _) (by omega)
    have hsl : slA A f c 32 = slA A f t 32 := by unfold slA; rw [if_neg (by omega), if_neg (by omega)]
    rw [hsl] at hS
    clear hsl
    go_enter Try.func9, Try.ntmps9
    clear hA hrr hc hcm
    have hdl := rootL_length ds.length ((ds.drop f).take (t - f)) (by rw [List.length_take, List.length_drop]; omega) (by omega) ((h32.drop f).take _)
    have hrt := fun v w' => root_any 1048576 v ((ds.drop f).take (t - f)) w' (by rw [List.length_take, List.length_drop]; omega) (Nat.le_refl _)
    simp only [Int.toNat_natCast]
    generalize rootL ((ds.drop f).take (t - f)) = dr at *
    go_wp2_with fail
    generalize hWW : World.alloc w _ = W
    have hW2 : w.alloc (.cells (bs zer).toArray 25 (0, 0)) = W := by rw [← hWW]; rfl
    rw [hW2] at r0 b0 hS hv0
    clear hWW hW2
    (with_reducible refine (hrt _ _ hS).mono ?_); rintro e w5 ⟨rfl, b5⟩
    have r5 := r0.below b5
    have hret := arr_dg.loadVar (r5.setRow dr) hdl
    have bz := below_setRow (Below.trans b0 (b5.mono b0.size)) (Nat.le_refl _) (bs dr).toArray
    clear hS hv0 hrt q1 q2 q3
    go_wp2_with ((with_reducible refine at_store ?_); refine arr_dg.storeL r5 zer_length rfl hdl _ _ rfl rfl rfl ?_)
    refine ret_cell2 (v := dg dr) Try.results9 ?_ hret ?_ ?_
    · rfl
    · rfl
    · refine ⟨?_, bz⟩
      rfl
set_option maxRecDepth 10000 in
set_option maxHeartbeats 4000000 in
theorem rsub_any (v : Value) (ds : List (List UInt8)) (f t : Int) (w : World) (hl : ds.length ≤ 1048576) (hv : SlD w v ds) :
    Calls Try.prog 10 #[v, .int .i64 f, .int .i64 t] w fun e w' => e = .returned (.tuple #[dg (subL ds f t), .int .i64 (subE ds f t)]) ∧ Below w.heap.size w w' := by
  have r0 : RowT 25 (w.alloc (.cells (bs zer).toArray 25 (0, 0))) w.heap.size zer := heap_alloc_new _ _
  have b0 := ext_alloc w (.cells (bs zer).toArray 25 (0, 0))
  have hv0 := hv.below b0
  obtain ⟨⟨A, c, rfl, hc, hcm, hA, hrr⟩, h32⟩ := hv
  have hretz := arr_dg.loadVar r0 zer_length
  by_cases hbad : f < 0 ∨ t ≤ f ∨ ds.length < t
  · have p1 : subL ds f t = zer := if_pos hbad
    have p2 : subE ds f t = 1 := if_pos hbad
    rw [p1, p2]
    clear p1 p2
    go_enter Try.func10, Try.ntmps10
    go_wp2_with ((with_reducible refine at_store ?_); refine arr_dg.store_newL zer_length rfl zer_length _ _ rfl rfl rfl ?_)
    all_goals
      refine ret_cell2 (v := dg zer) Try.results10 ?_ hretz ?_ ?_
      · rfl
      · rfl
      · refine ⟨?_, b0⟩
        rfl
  · have p1 : subL ds f t = rootL ((ds.drop f.toNat).take (t.toNat - f.toNat)) := if_neg hbad
    have p2 : subE ds f t = 0 := if_neg hbad
    rw [p1, p2]
    clear p1 p2 hretz
    obtain ⟨k1, k2, k3⟩ : 0 ≤ f ∧ f < t ∧ t ≤ ds.length := by omega
    clear hbad
    obtain ⟨f, rfl⟩ : ∃ n : Nat, f = n := ⟨f.toNat, by omega⟩
    obtain ⟨t, rfl⟩ : ∃ n : Nat, t = n := ⟨t.toNat, by omega⟩
    have q1 : decide ((f : Int) < 0) = false := decide_eq_false (by omega)
    have q2 : decide ((t : Int) ≤ f) = false := decide_eq_false (by omega)
    have q3 : decide ((ds.length : Int) < t) = false := decide_eq_false (by omega)
    have k4 : (t : Int) ≤ c := by omega
    have k5 : (f : Int) ≤ t := by omega
    have hS := hv0.slice f t (by omega) (by omega)
    go_enter Try.func10, Try.ntmps10
    clear hA hrr hc hcm
    have hdl := rootL_length ds.length ((ds.drop f).take (t - f)) (by rw [List.length_take, List.length_drop]; omega) (by omega) ((h32.drop f).take _)
    have hrt := fun v w' => rroot_any 1048576 v ((ds.drop f).take (t - f)) w' (by rw [List.length_take, List.length_drop]; omega) (Nat.le_refl _)
    simp only [Int.toNat_natCast]
    generalize rootL ((ds.drop f).take (t - f)) = dr at *
    go_wp2_with fail
    generalize hWW : World.alloc w _ = W
    have hW2 : w.alloc (.cells (bs zer).toArray 25 (0, 0)) = W := by rw [← hWW]; rfl
    rw [hW2] at r0 b0 hS hv0
    clear hWW hW2
    (with_reducible refine (hrt _ _ hS).mono ?_); rintro e w5 ⟨rfl, b5⟩
    have r5 := r0.below b5
    have hret := arr_dg.loadVar (r5.setRow dr) hdl
    have bz := below_setRow (Below.trans b0 (b5.mono b0.size)) (Nat.le_refl _) (bs dr).toArray
    clear hS hv0 hrt q1 q2 q3
    go_wp2_with ((with_reducible refine at_store ?_); refine arr_dg.storeL r5 zer_length rfl hdl _ _ rfl rfl rfl ?_)
    refine ret_cell2 (v := dg dr) Try.results10 ?_ hret ?_ ?_
    · rfl
    · rfl
    · refine ⟨?_, bz⟩
      rfl
end Go.Proofs.Ytidgomppehhkgaa

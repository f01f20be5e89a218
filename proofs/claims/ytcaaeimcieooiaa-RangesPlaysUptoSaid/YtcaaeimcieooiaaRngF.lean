/- ranges.From, where it makes one (walk). -/
import Derived.Test.YtcaaeimcieooiaaRngE
set_option linter.unusedVariables false
set_option linter.unusedSimpArgs false
set_option maxRecDepth 10000
namespace Go.Proofs.Ytcaaeimcieooiaa
open Go.RowKit
theorem make_dgs' (w : World) (n : Nat) (hn : n ≤ 65536) : (Instr.makeSlice 30 (.int .i64 (n : Int)) (.int .i64 (n : Int))).run Try.prog w = .ok (.slice (some ⟨w.heap.size, 0, none⟩) n n) (w.alloc (.cells (madeCells (bs zer).toArray (n * 32)) 29)) := make_dgs w n hn

/-- What is put whole into new memory of its size is what lies there. -/
theorem put_all (cs cur : List Value) (h : cur.length = cs.length) : cs ++ cur.drop cs.length = cs := by rw [List.drop_eq_nil_of_le (by omega), List.append_nil]
theorem own_row {w : World} {g n : Nat} {ds : List (List UInt8)} (hg : w.heap[g]? = some (.cells (bs ds.flatten).toArray 29 (0, 0))) (h32 : All32 ds) (hn : ds.length = n) (hm : n ≤ 65536) {B : Nat} (hB : B ≤ g) :
    OwD B w (.slice (some ⟨g, 0, none⟩) n n) ds := by
  subst hn
  have hl : (bs ds.flatten).length = ds.length * 32 := by rw [bs_length, h32.flat]
  refine ⟨⟨hl, .inr ⟨g, ds.length, _, rfl, hB, hg, Nat.le_refl _, by unfold maxLen; omega, ?_, ?_⟩⟩, h32⟩
  · rw [List.size_toArray, hl]
  · rw [List.take_of_length_le (by rw [hl]; exact Nat.le_refl _)]
set_option maxHeartbeats 2000000 in
theorem from_ok (v : Value) (ds : List (List UInt8)) (w : World) (size : Nat) (h : SlD w v ds) (hs : size ≤ 1048576) (hp : ds.length = popN 21 size) :
    Calls Try.prog 14 #[v, .int .u64 (size : Int)] w fun e w' => ∃ p v', e = .returned (.tuple #[ptr p, .int .i64 0]) ∧ w.heap.size ≤ p ∧ RgAt w' p size v' true ∧ OwD w.heap.size w' v' ds ∧ Below w.heap.size w w' := by
  obtain ⟨⟨A, c, rfl, hc, hcm, hA, hr⟩, h32⟩ := id h
  have d1 : decide ((1048576 : Int) < size) = false := decide_eq_false (by omega)
  have d2 : decide (1048576 < size) = false := decide_eq_false (by omega)
  have ho := ones_any size w (by omega)
  have hle := pop_le 21 size
  rw [← hp] at ho hle
  replace hp : Hid _ := hp
  have hmk := fun w' => make_dgs' w' ds.length (by omega)
  have q1 : ((ds.length : Int) != (ds.length : Int)) = false := by simp
  have q2 : (ds.length != ds.length) = false := by simp
  have e1 := ext_alloc w (.cells (madeCells (bs zer).toArray (ds.length * 32)) 29)
  have hg1 := heap_alloc_new w (.cells (madeCells (bs zer).toArray (ds.length * 32)) 29)
  generalize hW1 : w.alloc (.cells (madeCells (bs zer).toArray (ds.length * 32)) 29) = W1 at *
  have hz1 : W1.heap.size = w.heap.size + 1 := by rw [← hW1, size_alloc]
  have e2 := ext_alloc W1 (.cells #[.int .u64 (size : Int), .slice (some ⟨w.heap.size, 0, none⟩) ds.length ds.length, .bool true] 49 (0, 0))
  have hR : RgAt (W1.alloc (.cells #[.int .u64 (size : Int), .slice (some ⟨w.heap.size, 0, none⟩) ds.length ds.length, .bool true] 49 (0, 0))) (w.heap.size + 1) size (.slice (some ⟨w.heap.size, 0, none⟩) ds.length ds.length) true := by
    have := heap_alloc_new W1 (.cells #[.int .u64 (size : Int), .slice (some ⟨w.heap.size, 0, none⟩) ds.length ds.length, .bool true] 49 (0, 0))
    rw [hz1] at this; exact this
  have hg2 : (W1.alloc (.cells #[.int .u64 (size : Int), .slice (some ⟨w.heap.size, 0, none⟩) ds.length ds.length, .bool true] 49 (0, 0))).heap[w.heap.size]? = _ := (e2.block _ (by omega)).trans hg1
  cases A with
  | none =>
    obtain rfl : c = 0 := hA rfl
    obtain rfl : ds = [] := List.eq_nil_of_length_eq_zero (by omega)
    have hcn := fun (w' : World) (a : Addr) => run_copy_nil (P := Try.prog) w' 30 30 3 29 a 0 0 Try.underlying30 (by kernel_rfl)
    simp only [List.length_nil, Nat.zero_mul, Int.natCast_zero] at *
    go_enter Try.func14, Try.ntmps14
    go_wp2_with fail
    refine ho.mono ?_; rintro e w1 ⟨rfl, rfl⟩
    go_wp2_with fail
    go_ret2
    clear hmk q1 q2 hcn
    refine ⟨_, _, rfl, Nat.le_succ _, hR, own_row (n := 0) ?_ h32 rfl (by omega) (Nat.le_refl _), Ext.trans e1 e2⟩
    rw [hg2]; simp [madeCells, bs]
  | some ad =>
    obtain ⟨⟨A2, c2, ee, _, _, _, hr2⟩, _⟩ := h.below (Ext.trans e1 e2)
    injection ee with ee1 ee2 ee3
    subst ee1 ee3
    have hcp := copy_dgs _ w.heap.size ds.length ds.length ad c _ _ (bs ds.flatten) hg2 (by rw [bs_length, h32.flat]) hr2.some_ (by rw [bs_length, h32.flat, size_madeCells]; exact Nat.le_refl _) (bs_one _)
    rw [put_all _ _ (by rw [Array.length_toList, size_madeCells, bs_length, h32.flat])] at hcp
    go_enter Try.func14, Try.ntmps14
    go_wp2_with fail
    refine ho.mono ?_; rintro e w1 ⟨rfl, rfl⟩
    go_wp2_with fail
    go_ret2
    clear hmk q1 q2 hcp
    refine ⟨_, _, rfl, Nat.le_succ _, ?_, own_row (setRow_heap _ _ _ _ _ _ hg2) h32 rfl (by omega) (Nat.le_refl _), below_setRow (Ext.trans e1 e2) (Nat.le_refl _) _⟩
    exact (heap_setRow_other _ _ _ _ (by omega)).trans hR
end Go.Proofs.Ytcaaeimcieooiaa

/- The law ExtractIncluded, walked. -/
import Derived.Test.YtnpbapefjbfndaaZExrW
set_option linter.unusedVariables false
set_option linter.unusedSimpArgs false
set_option maxRecDepth 10000
namespace Go.Proofs.Ytnpbapefjbfndaa
open Go.RowKit
attribute [local go_sem high] dg_cells guard_dg

theorem decide_self {α : Type} [DecidableEq α] (a : α) : decide (a = a) = true := decide_eq_true rfl
theorem is_same (u v : Value) (o : Option (List UInt8 × List UInt8)) (w : World) (hu : PairAt w u o) (hv : PairAt w v o) :
    Calls Try.prog 14 #[u, v] w fun e w' => e = .returned (.bool true) ∧ Below w.heap.size w w' := by
  have h := is_any u v o o w hu hv
  rw [decide_self, decide_self] at h
  exact h
theorem PairAt.below {w w' : World} {v : Value} {o : Option (List UInt8 × List UInt8)} (h : PairAt w v o) (hb : Ext w w') : PairAt w' v o := by
  obtain ⟨va, vb, e, h1, h2⟩ := h
  exact ⟨va, vb, e, h1.below hb, h2.below hb⟩
set_option maxHeartbeats 8000000 in
theorem law_ExtractIncluded (bits : Int) (vl : Value) (l : List (List UInt8)) (i : Int) (vb : Value) (b : List UInt8) (vp : Value) (ps : List (List UInt8)) (w : World) (hbits : -9223372036854775808 ≤ bits ∧ bits ≤ 9223372036854775807)
    (hl : SlX w vl l) (hls : (l.map fun z => z.length + 1).sum ≤ 1048576) (hi : -9223372036854775808 ≤ i ∧ i ≤ 9223372036854775807) (hb : SlB w vb b) (hbl : b.length ≤ 1048576) (hp : SlD w vp ps) (hpl : ps.length ≤ 1048576) :
    Calls Try.prog 4 #[.int .i64 bits, vl, .int .i64 i, vb, vp] w fun e w' => e = .returned (.bool true) ∧ Below w.heap.size w w' := by
  obtain ⟨q1, q2⟩ := sum_len l
  have hll : l.length ≤ 1048576 := by omega
  have hz : ∀ z ∈ l, z.length ≤ 1048576 := fun z h => by have := q2 z h; omega
  have hz2 : ∀ z ∈ l, z.length ≤ 1073741824 := fun z h => by have := q2 z h; omega
  clear q1 q2 hls
  have hkept := kept_any bits w hbits.1 hbits.2
  go_enter Try.func4, Try.ntmps4
  go_wp2_with fail
  refine hkept.mono ?_; rintro e w1 ⟨⟨k, hk, rfl⟩, rfl⟩
  clear hkept
  go_wp2_with fail
  refine (hash_any k _).mono ?_; rintro e w1 ⟨rfl, hg1, b1⟩
  have hl1 := hl.below b1
  have hown := own_any vl l w1 hl1 hll hz2
  go_wp2_with fail
  refine hown.mono ?_; rintro e w2 ⟨v2, rfl, hl2, b2⟩
  have x2 := Ext.trans b1 b2
  have hinc := included_any w.heap.size k hk v2 l i vb b vp ps w2 hi.1 hi.2 hl2 (hb.below x2) (hp.below x2) (hg1.below b2) hll hz hbl
  clear hown hl1 b1 b2 hl2 hg1
  go_wp2_with fail
  refine hinc.mono ?_; rintro e w3 ⟨v3, rfl, hp3, b3⟩
  have x3 := Ext.trans x2 b3
  have hri := fun w' (h : Ext w w') => rincluded_any k hk vl l i vb b vp ps w' hi.1 hi.2 (hl.below h) (hb.below h) (hp.below h) hll hz hbl
  generalize includedL k l i b ps = o at *
  obtain ⟨A, c, A', c', rfl, _, _⟩ := pair_open hp3
  generalize (o.getD ([], [])).1.length = n1 at *
  generalize (o.getD ([], [])).2.length = n2 at *
  have e4 := ext_alloc w3 (.cells #[.slice A n1 c, .slice A' n2 c'] 30)
  have p4 : PR 30 (w3.alloc (.cells #[.slice A n1 c, .slice A' n2 c'] 30)) w3.heap.size _ _ := heap_alloc_new _ _
  have x4 := Ext.trans x3 e4
  have hp4 := hp3.below e4
  have hr4 := hri _ x4
  clear hinc hri x2 x3 b3 hp3 hl hb hp
  go_wp2_with fail
  refine hr4.mono ?_; rintro e w5 ⟨v5, rfl, hp5, b5⟩
  have x5 := Ext.trans x4 b5
  obtain ⟨D, d, D', d', rfl, _, _⟩ := pair_open hp5
  generalize (o.getD ([], [])).1.length = m1 at *
  generalize (o.getD ([], [])).2.length = m2 at *
  have e6 := ext_alloc w5 (.cells #[.slice D m1 d, .slice D' m2 d'] 33)
  have p6 : PR 33 (w5.alloc (.cells #[.slice D m1 d, .slice D' m2 d'] 33)) w5.heap.size _ _ := heap_alloc_new _ _
  have x6 := Ext.trans x5 e6
  have q4 := p4.below (Ext.trans b5 e6)
  have his := is_same _ _ o _ (hp4.below (Ext.trans b5 e6)) (hp5.below e6)
  have c40 := q4.c0.1
  have c41 := q4.c1.1
  have c60 := p6.c0.1
  have c61 := p6.c1.1
  have hww := fun w' => wakes_any w'
  generalize o.isSome = os at *
  clear hr4 e4 e6 p4 hp4 hp5 b5 x4 x5
  go_wp2_with fail
  refine his.mono ?_; rintro e w7 ⟨rfl, b7⟩
  have x7 := Ext.trans x6 b7
  have qs : (os == os) = true := beq_iff_eq.2 rfl
  clear his c40 c41 c60 c61
  go_wp2_with fail
  refine (hww _).mono ?_; rintro e w8 ⟨rfl, b8⟩
  go_wp2_with fail
  go_ret
  exact ⟨rfl, Ext.trans x7 b8⟩
end Go.Proofs.Ytnpbapefjbfndaa

/- The law ExtractFinds, walked. -/
import Derived.Test.YtnpbapefjbfndaaZExlI
set_option linter.unusedVariables false
set_option linter.unusedSimpArgs false
set_option maxRecDepth 10000
namespace Go.Proofs.Ytnpbapefjbfndaa
open Go.RowKit
attribute [local go_sem high] dg_cells guard_dg

theorem listsL_ok {k m : Nat} : ∀ (n : Nat) (a b : List (List UInt8)), a.length ≤ n → a.length < 2 ^ 63 → b.length < 2 ^ 63 → (∀ z ∈ a, z.length ≤ m) → (∀ z ∈ b, z.length ≤ m) →
    OkP k (m + 65) (listsL k a b) ∧ (¬ (a = b ∨ rootX k a ≠ rootX k b) → (listsL k a b).isSome = true)
  | n, a, b, hn, la, lb, za, zb => by
    by_cases h : a = b ∨ rootX k a ≠ rootX k b
    · rw [listsL_none h]; exact ⟨okP_none _ _, fun h' => absurd h h'⟩
    · by_cases e : textL k a = textL k b
      · obtain ⟨k2, _, _, _⟩ := text_both (fun e => h (Or.inl e)) la lb e
        have hk := kOf_lt k2 la
        obtain ⟨n', rfl⟩ : ∃ n', n = n' + 1 := ⟨n - 1, by omega⟩
        by_cases hd : a.take (kOf a.length) = b.take (kOf b.length)
        · rw [listsL_right h e la lb hd]
          have ih := listsL_ok (k := k) (m := m) n' (a.drop (kOf a.length)) (b.drop (kOf b.length)) (by rw [List.length_drop]; omega) (by rw [List.length_drop]; omega) (by rw [List.length_drop]; omega) (fun z h => za z (List.mem_of_mem_drop h)) (fun z h => zb z (List.mem_of_mem_drop h))
          exact ⟨ih.1, fun _ => ih.2 (next_right h e la lb hd)⟩
        · rw [listsL_left h e la lb hd]
          have ih := listsL_ok (k := k) (m := m) n' (a.take (kOf a.length)) (b.take (kOf b.length)) (by rw [List.length_take]; omega) (by rw [List.length_take]; omega) (by rw [List.length_take]; omega) (fun z h => za z (List.mem_of_mem_take h)) (fun z h => zb z (List.mem_of_mem_take h))
          exact ⟨ih.1, fun _ => ih.2 (next_left h e la lb hd)⟩
      · rw [listsL_some h e]
        refine ⟨fun x y hxy => ?_, fun _ => rfl⟩
        cases hxy
        refine ⟨?_, textL_length a la za, textL_length b lb zb⟩
        have hr : rootX k a = rootX k b := Decidable.not_not.1 fun hc => h (Or.inr hc)
        unfold rootX at hr
        unfold mayL; rw [hr, decide_eq_false e]; simp
theorem mayL_nil (k : Nat) : mayL k [] [] = false := by unfold mayL; simp
set_option maxHeartbeats 8000000 in
theorem law_ExtractFinds (bits : Int) (va : Value) (a : List (List UInt8)) (vb : Value) (b : List (List UInt8)) (w : World) (hbits : -9223372036854775808 ≤ bits ∧ bits ≤ 9223372036854775807)
    (ha : SlX w va a) (has : (a.map fun z => z.length + 1).sum ≤ 1048576) (hb : SlX w vb b) (hbs : (b.map fun z => z.length + 1).sum ≤ 1048576) :
    Calls Try.prog 6 #[.int .i64 bits, va, vb] w fun e w' => e = .returned (.bool true) ∧ Below w.heap.size w w' := by
  obtain ⟨q1, q2⟩ := sum_len a
  obtain ⟨q3, q4⟩ := sum_len b
  have la : a.length ≤ 1048576 := by omega
  have lb : b.length ≤ 1048576 := by omega
  have za : ∀ z ∈ a, z.length ≤ 1048576 := fun z h => by have := q2 z h; omega
  have zb : ∀ z ∈ b, z.length ≤ 1048576 := fun z h => by have := q4 z h; omega
  clear q1 q2 q3 q4 has hbs
  have hkept := kept_any bits w hbits.1 hbits.2
  go_enter Try.func6, Try.ntmps6
  go_wp2_with fail
  refine hkept.mono ?_; rintro e w1 ⟨⟨k, hk, rfl⟩, rfl⟩
  clear hkept
  have hcase : (decide (a = b) = true ∧ listsL k a b = none) ∨ (decide (a = b) = false ∧ (rootX k a == rootX k b) = false ∧ listsL k a b = none) ∨
      (decide (a = b) = false ∧ (rootX k a == rootX k b) = true ∧ ∃ x y, listsL k a b = some (x, y) ∧ mayL k x y = true ∧ x.length ≤ 1048641 ∧ y.length ≤ 1048641) := by
    obtain ⟨hok, hsm⟩ := listsL_ok (k := k) (m := 1048576) a.length a b (Nat.le_refl _) (by omega) (by omega) za zb
    by_cases hab : a = b
    · exact Or.inl ⟨decide_eq_true hab, listsL_none (Or.inl hab)⟩
    · by_cases hrr : rootX k a = rootX k b
      · refine Or.inr (Or.inr ⟨decide_eq_false hab, beq_iff_eq.2 hrr, ?_⟩)
        have h1 := hsm (by simp [hab, hrr])
        cases ho : listsL k a b with
        | none => rw [ho] at h1; cases h1
        | some p => exact ⟨p.1, p.2, rfl, hok p.1 p.2 ho⟩
      · exact Or.inr (Or.inl ⟨decide_eq_false hab, beq_eq_false_iff_ne.2 hrr, listsL_none (Or.inr hrr)⟩)
  go_wp2_with fail
  refine (hash_any k _).mono ?_; rintro e w1 ⟨rfl, hg1, x1⟩
  have hls := lists_any w.heap.size k hk va vb a b w1 la lb za zb (ha.below x1) (hb.below x1) hg1
  generalize listsL k a b = o at *
  have hs := fun w' (h : Ext w w') => rsame_any va vb a b w' (ha.below h) (hb.below h)
  have ka := fun w' (h : Ext w w') (hg : HvAt w' w.heap.size k) => root_any w.heap.size k hk va a w' la za (ha.below h) hg
  have kb := fun w' (h : Ext w w') (hg : HvAt w' w.heap.size k) => root_any w.heap.size k hk vb b w' lb zb (hb.below h) hg
  have da := rootX_length k a
  have db := rootX_length k b
  have qe := fun w' => arr_dg.eql (rootX k a) (rootX k b) da db w'
  rcases hcase with ⟨hd, rfl⟩ | ⟨hd, hr, rfl⟩ | ⟨hd, hr, x, y, rfl, hxy, lx, ly⟩
  · rw [hd] at hs
    clear hd za zb ha hb
    go_wp2_with fail
    refine hls.mono ?_; rintro e w4 ⟨v4, rfl, hp4, b4⟩
    have x4 := Ext.trans x1 b4
    have hg4 := hg1.below b4
    obtain ⟨A, c, A', c', rfl, sA, sB⟩ := pair_open hp4
    change SlB w4 (.slice A 0 c) [] at sA
    change SlB w4 (.slice A' 0 c') [] at sB
    clear hls hg1 hp4 b4 x1
    have e5 := ext_alloc w4 (.cells #[.slice A 0 c, .slice A' 0 c'] 30)
    have p5 : PR 30 (w4.alloc (.cells #[.slice A 0 c, .slice A' 0 c'] 30)) w4.heap.size (.slice A 0 c) (.slice A' 0 c') := heap_alloc_new _ _
    have x5 := Ext.trans x4 e5
    have hs := hs _ x5
    have hg5 := hg4.below e5
    have sA5 := sA.below e5
    have sB5 := sB.below e5
    clear hg4 sA sB e5 x4
    have hm := fun w' (b : Ext _ w') => may_any w.heap.size k _ _ [] [] w' hk (by simp) (by simp) (sA5.below b) (sB5.below b) (hg5.below b)
    rw [mayL_nil] at hm
    go_wp2_with fail
    refine hs.mono ?_; rintro e w6 ⟨rfl, b6⟩
    have x6 := Ext.trans x5 b6
    have p6 := p5.below b6
    have c0 := p6.c0.1
    have c1 := p6.c1.1
    go_wp2_with fail
    refine (hm _ b6).mono ?_; rintro e w7 ⟨rfl, b7⟩
    have p7 := p6.below b7
    have d0 := p7.c0.1
    have d1 := p7.c1.1
    clear c0 c1
    have x7 := Ext.trans x6 b7
    go_wp2_with fail
    refine (wakes_any _).mono ?_; rintro e w8 ⟨rfl, b8⟩
    go_wp2_with fail
    go_ret
    exact ⟨rfl, Ext.trans x7 b8⟩
  · rw [hd] at hs
    rw [hr] at qe
    clear hd za zb ha hb
    generalize rootX k a = ra at *
    generalize rootX k b = rb at *
    go_wp2_with fail
    refine hls.mono ?_; rintro e w4 ⟨v4, rfl, hp4, b4⟩
    have x4 := Ext.trans x1 b4
    have hg4 := hg1.below b4
    obtain ⟨A, c, A', c', rfl, sA, sB⟩ := pair_open hp4
    change SlB w4 (.slice A 0 c) [] at sA
    change SlB w4 (.slice A' 0 c') [] at sB
    clear hls hg1 hp4 b4 x1
    have e5 := ext_alloc w4 (.cells #[.slice A 0 c, .slice A' 0 c'] 30)
    have p5 : PR 30 (w4.alloc (.cells #[.slice A 0 c, .slice A' 0 c'] 30)) w4.heap.size (.slice A 0 c) (.slice A' 0 c') := heap_alloc_new _ _
    have x5 := Ext.trans x4 e5
    have hs := hs _ x5
    have hg5 := hg4.below e5
    have sA5 := sA.below e5
    have sB5 := sB.below e5
    clear hg4 sA sB e5 x4
    have hm := fun w' (b : Ext _ w') => may_any w.heap.size k _ _ [] [] w' hk (by simp) (by simp) (sA5.below b) (sB5.below b) (hg5.below b)
    rw [mayL_nil] at hm
    go_wp2_with fail
    refine hs.mono ?_; rintro e w6 ⟨rfl, b6⟩
    have x6 := Ext.trans x5 b6
    have hg6 := hg5.below b6
    go_wp2_with fail
    refine (ka _ x6 hg6).mono ?_; rintro e wa ⟨rfl, ba⟩
    have b6 := Ext.trans b6 ba
    have x6 := Ext.trans x6 ba
    have hg6 := hg6.below ba
    go_wp2_with fail
    refine (kb _ x6 hg6).mono ?_; rintro e wb ⟨rfl, bb⟩
    have b6 := Ext.trans b6 bb
    have x6 := Ext.trans x6 bb
    have p6 := p5.below b6
    have c0 := p6.c0.1
    have c1 := p6.c1.1
    go_wp2_with fail
    refine (hm _ b6).mono ?_; rintro e w7 ⟨rfl, b7⟩
    have p7 := p6.below b7
    have d0 := p7.c0.1
    have d1 := p7.c1.1
    clear c0 c1
    have x7 := Ext.trans x6 b7
    go_wp2_with fail
    refine (wakes_any _).mono ?_; rintro e w8 ⟨rfl, b8⟩
    go_wp2_with fail
    go_ret
    exact ⟨rfl, Ext.trans x7 b8⟩
  · rw [hd] at hs
    rw [hr] at qe
    clear hd za zb ha hb
    generalize rootX k a = ra at *
    generalize rootX k b = rb at *
    go_wp2_with fail
    refine hls.mono ?_; rintro e w4 ⟨v4, rfl, hp4, b4⟩
    have x4 := Ext.trans x1 b4
    have hg4 := hg1.below b4
    obtain ⟨A, c, A', c', rfl, sA, sB⟩ := pair_open hp4
    change SlB w4 (.slice A x.length c) x at sA
    change SlB w4 (.slice A' y.length c') y at sB
    clear hls hg1 hp4 b4 x1
    have e5 := ext_alloc w4 (.cells #[.slice A x.length c, .slice A' y.length c'] 30)
    have p5 : PR 30 (w4.alloc (.cells #[.slice A x.length c, .slice A' y.length c'] 30)) w4.heap.size (.slice A x.length c) (.slice A' y.length c') := heap_alloc_new _ _
    have x5 := Ext.trans x4 e5
    have hs := hs _ x5
    have hg5 := hg4.below e5
    have sA5 := sA.below e5
    have sB5 := sB.below e5
    clear hg4 sA sB e5 x4
    have hm := fun w' (b : Ext _ w') => may_any w.heap.size k _ _ x y w' hk (by omega) (by omega) (sA5.below b) (sB5.below b) (hg5.below b)
    rw [hxy] at hm
    go_wp2_with fail
    refine hs.mono ?_; rintro e w6 ⟨rfl, b6⟩
    have x6 := Ext.trans x5 b6
    have hg6 := hg5.below b6
    go_wp2_with fail
    refine (ka _ x6 hg6).mono ?_; rintro e wa ⟨rfl, ba⟩
    have b6 := Ext.trans b6 ba
    have x6 := Ext.trans x6 ba
    have hg6 := hg6.below ba
    go_wp2_with fail
    refine (kb _ x6 hg6).mono ?_; rintro e wb ⟨rfl, bb⟩
    have b6 := Ext.trans b6 bb
    have x6 := Ext.trans x6 bb
    have p6 := p5.below b6
    have c0 := p6.c0.1
    have c1 := p6.c1.1
    go_wp2_with fail
    refine (hm _ b6).mono ?_; rintro e w7 ⟨rfl, b7⟩
    have p7 := p6.below b7
    have d0 := p7.c0.1
    have d1 := p7.c1.1
    clear c0 c1
    have x7 := Ext.trans x6 b7
    go_wp2_with fail
    refine (wakes_any _).mono ?_; rintro e w8 ⟨rfl, b8⟩
    go_wp2_with fail
    go_ret
    exact ⟨rfl, Ext.trans x7 b8⟩
end Go.Proofs.Ytnpbapefjbfndaa

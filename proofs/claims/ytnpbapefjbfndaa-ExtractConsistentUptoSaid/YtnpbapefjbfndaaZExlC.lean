/- The law ExtractConsistent, walked. -/
import Derived.Test.YtnpbapefjbfndaaZExlI
set_option linter.unusedVariables false
set_option linter.unusedSimpArgs false
set_option maxRecDepth 10000
namespace Go.Proofs.Ytnpbapefjbfndaa
open Go.RowKit
attribute [local go_sem high] dg_cells guard_dg

theorem zeroP (w : World) : (zeroValue 30).run Try.prog w = .ok (.agg #[.slice none 0 0, .slice none 0 0]) w :=
  (zero_of_info (P := Try.prog) (t := 30) (v := .agg #[.slice none 0 0, .slice none 0 0]) (n := 2) (by kernel_rfl)).1 w
theorem cons_same (k : Nat) (old : List UInt8) (l : List (List UInt8)) (m : Int) (ps : List (List UInt8)) : consistentL k old zer lastL l m ps = consistentL k old old firstP l m ps :=
  consistentL_same (fun ps h => by unfold firstP lastL; rw [h]) l m ps
theorem ext_alloc_of {n : Nat} {w w' : World} (_ : Below n w w') (b : _) : Ext w' (w'.alloc b) := ext_alloc w' b
theorem new_pair {n : Nat} {w w' : World} (_ : Below n w w') : PR 30 (w'.alloc (.cells #[.slice none 0 0, .slice none 0 0] 30 (0, 0))) w'.heap.size (.slice none 0 0) (.slice none 0 0) := heap_alloc_new w' (.cells #[.slice none 0 0, .slice none 0 0] 30 (0, 0))
set_option maxHeartbeats 16000000 in
theorem law_ExtractConsistent (bits : Int) (vl : Value) (l : List (List UInt8)) (m : Int) (old : List UInt8) (vp : Value) (ps : List (List UInt8)) (w : World) (hbits : -9223372036854775808 ≤ bits ∧ bits ≤ 9223372036854775807)
    (hl : SlX w vl l) (hls : (l.map fun z => z.length + 1).sum ≤ 1048576) (hm : -9223372036854775808 ≤ m ∧ m ≤ 9223372036854775807) (ol : old.length = 32) (hp : SlD w vp ps) (hpl : ps.length ≤ 1048576) :
    Calls Try.prog 5 #[.int .i64 bits, vl, .int .i64 m, dg old, vp] w fun e w' => e = .returned (.bool true) ∧ Below w.heap.size w w' := by
  obtain ⟨q1, q2⟩ := sum_len l
  have hll : l.length ≤ 1048576 := by omega
  have hz : ∀ z ∈ l, z.length ≤ 1048576 := fun z h => by have := q2 z h; omega
  have hz2 : ∀ z ∈ l, z.length ≤ 1073741824 := fun z h => by have := q2 z h; omega
  clear q1 q2 hls
  have b0 := ext_alloc w (.cells (bs old).toArray 38 (0, 0))
  have hO : RowT 38 _ w.heap.size old := heap_alloc_new w (.cells (bs old).toArray 38 (0, 0))
  have hkept := kept_any bits (w.alloc (.cells (bs old).toArray 38 (0, 0))) hbits.1 hbits.2
  have hri := fun k (hk : k ≤ 256) w' (h : Below w.heap.size w w') => rconsistent_any k hk vl l m old ol vp ps w' hm.1 hm.2 (hl.below h) (hp.below h) hll hz
  change Calls _ _ #[_, _, _, .agg (bs old).toArray, _] _ _
  go_enter Try.func5, Try.ntmps5
  go_wp2_with fail
  refine hkept.mono ?_; rintro e w1 ⟨⟨k, hk, rfl⟩, rfl⟩
  clear hkept
  have hri := hri k hk
  simp only [cons_same] at hri
  generalize hoo : consistentL k old old firstP l m ps = o at *
  replace hoo : Hid _ := hoo
  go_upto_region 2 with fail
  generalize World.alloc w _ = W at *
  go_cut [11, 12] (fun s11 s12 wx => ∃ P A c A' c', s11 = .pointer (some ⟨P, 0, none⟩) ∧ s12 = .bool o.isSome ∧ PR 30 wx P (.slice A (o.getD ([], [])).1.length c) (.slice A' (o.getD ([], [])).2.length c') ∧ PairAt wx (.agg #[.slice A (o.getD ([], [])).1.length c, .slice A' (o.getD ([], [])).2.length c']) o ∧ Below w.heap.size w wx ∧ RowT 38 wx w.heap.size old)
  case first =>
    have hS : Below w.heap.size w W.drew ∧ RowT 38 W.drew w.heap.size old := ⟨b0.drew, hO.below (ext_drew _)⟩
    clear hri b0 hO
    refine wp_region_S (fun w' => Below w.heap.size w w' ∧ RowT 38 w' w.heap.size old) (by kernel_rfl) ?_
    refine wpAnyS_take (i := 0) (v := ?_) hS (some 18) rfl rfl (by kernel_rfl) (by kernel_rfl) (by kernel_rfl) (fun _ _ _ h => h) ?_ ?_
    rotate_left 1
    · (refine Or.inl ⟨by rfl, ?_⟩; intro w' hw'; (try go_simp); (try rfl); done)
    try simp only [Act.put, List.setIfInBounds_toArray, List.set_cons_zero, List.set_cons_succ]
    refine wpAnyS_take (i := 2) (v := ?_) hS (some 20) rfl rfl (by kernel_rfl) (by kernel_rfl) (by kernel_rfl) (fun _ _ _ h => h) ?_ ?_
    rotate_left 1
    · (refine Or.inl ⟨by rfl, ?_⟩; intro w' hw'; (try go_simp); (try rfl); done)
    try simp only [Act.put, List.setIfInBounds_toArray, List.set_cons_zero, List.set_cons_succ]
    refine wpAnyS_take (i := 4) (v := ?_) hS (some 22) rfl rfl (by kernel_rfl) (by kernel_rfl) (by kernel_rfl) (fun _ _ _ h => h) ?_ ?_
    rotate_left 1
    · (refine Or.inl ⟨by rfl, ?_⟩; intro w' hw'; (try go_simp); (try rfl); done)
    try simp only [Act.put, List.setIfInBounds_toArray, List.set_cons_zero, List.set_cons_succ]
    refine wpAnyS_take (i := 5) (v := ?_) hS (some 23) rfl rfl (by kernel_rfl) (by kernel_rfl) (by kernel_rfl) (fun _ _ _ h => h) ?_ ?_
    rotate_left 1
    · (refine Or.inl ⟨by rfl, ?_⟩; intro w' hw'; (refine arr_dg.ex hw'.2 ol (.tmp 8) ?_ ?_ <;> rfl))
    try simp only [Act.put, List.setIfInBounds_toArray, List.set_cons_zero, List.set_cons_succ]
    refine wpAnyS_take (i := 6) (v := ?_) hS (some 24) rfl rfl (by kernel_rfl) (by kernel_rfl) (by kernel_rfl) (fun _ _ _ h => h) ?_ ?_
    rotate_left 1
    · (refine Or.inl ⟨by rfl, ?_⟩; intro w' hw'; (try go_simp); (try rfl); done)
    try simp only [Act.put, List.setIfInBounds_toArray, List.set_cons_zero, List.set_cons_succ]
    refine wpAnyS_fork2 (i := 1) (j := 11) (by kernel_rfl) rfl (by rfl) rfl (by rfl) (fun K hK => ?_) (fun K hK => ?_)
    · (try generalize World.drew _ = Wd at *)
      go_simp
      (with_reducible refine (hash_any k _).mono ?_); rintro e z1 ⟨rfl, hg, b⟩
      (try replace hP := hP.below b)
      have hb := And.intro (Below.trans hS.1 (b.mono hS.1.size)) (hS.2.below b)
      clear b
      refine hK.out _ _ hb ?_
      replace hS := hb
      clear hK K hb
      try simp only [Act.put, List.setIfInBounds_toArray, List.set_cons_zero, List.set_cons_succ]
      refine wpAnyS_fork2 (i := 3) (j := 11) (by kernel_rfl) rfl (by rfl) rfl (by rfl) (fun K hK => ?_) (fun K hK => ?_)
      · (try generalize World.drew _ = Wd at *)
        go_simp
        (with_reducible refine (own_any vl l _ (hl.below hS.1) hll hz2).mono ?_); rintro e z2 ⟨v2, rfl, hl2, b⟩
        (try replace hP := hP.below b)
        replace hg := hg.below b
        have hb := And.intro (Below.trans hS.1 (b.mono hS.1.size)) (hS.2.below b)
        clear b
        refine hK.out _ _ hb ?_
        replace hS := hb
        clear hK K hb
        try simp only [Act.put, List.setIfInBounds_toArray, List.set_cons_zero, List.set_cons_succ]
        refine wpAnyS_fork2 (i := 7) (j := 11) (by kernel_rfl) rfl (by rfl) rfl (by rfl) (fun K hK => ?_) (fun K hK => ?_)
        · (try generalize World.drew _ = Wd at *)
          go_simp
          have hc := consistent_any _ k hk v2 l m old ol vp ps _ hm.1 hm.2 hl2 (hp.below hS.1) hg hll hz
          rw [hoo.out] at hc
          refine hc.mono ?_; rintro e z3 ⟨v3, rfl, hp3, b⟩
          (try replace hP := hP.below b)
          have hb := And.intro (Below.trans hS.1 (b.mono hS.1.size)) (hS.2.below b)
          clear b hl2 hg hc
          obtain ⟨A, c, A', c', rfl, sA, sB⟩ := pair_open hp3
          refine hK.out _ _ hb ?_
          replace hS := hb
          clear hK K hb
          try simp only [Act.put, List.setIfInBounds_toArray, List.set_cons_zero, List.set_cons_succ]
          refine wpAnyS_take (i := 8) (v := ?_) hS (some 17) rfl rfl (by kernel_rfl) (by kernel_rfl) (by kernel_rfl) (fun _ _ _ h => h) ?_ ?_
          rotate_left 1
          · (refine Or.inl ⟨by rfl, ?_⟩; intro w' hw'; (try go_simp); (try rfl); done)
          try simp only [Act.put, List.setIfInBounds_toArray, List.set_cons_zero, List.set_cons_succ]
          refine wpAnyS_take (i := 9) (v := ?_) hS (some 26) rfl rfl (by kernel_rfl) (by kernel_rfl) (by kernel_rfl) (fun _ _ _ h => h) ?_ ?_
          rotate_left 1
          · (refine Or.inl ⟨by rfl, ?_⟩; intro w' hw'; (try go_simp); (try rfl); done)
          try simp only [Act.put, List.setIfInBounds_toArray, List.set_cons_zero, List.set_cons_succ]
          refine wpAnyS_take (i := 10) (v := ?_) hS (some 27) rfl rfl (by kernel_rfl) (by kernel_rfl) (by kernel_rfl) (fun _ _ _ h => h) ?_ ?_
          rotate_left 1
          · (refine Or.inl ⟨by rfl, ?_⟩; intro w' hw'; (try go_simp); (try rfl); done)
          try simp only [Act.put, List.setIfInBounds_toArray, List.set_cons_zero, List.set_cons_succ]
          refine wpAnyS_one (i := 11) rfl (by kernel_rfl) (by rfl) (fun K hK => ?_)
          (try generalize World.drew _ = Wd at *)
          have hPl := hS.2.lt
          refine wp_alloc_at (some 11) 30 rfl rfl _ (zeroP _) ?_
          have b := ext_alloc_of hS.1 (.cells #[.slice none 0 0, .slice none 0 0] 30 (0, 0))
          have hP := new_pair hS.1
          (try replace hg := hg.below b)
          (try replace hl2 := hl2.below b)
          (try replace hp3 := hp3.below b)
          (try replace sA := sA.below b)
          (try replace sB := sB.below b)
          have hb := And.intro (Below.trans hS.1 (b.mono hS.1.size)) (hS.2.below b)
          clear b
          generalize World.alloc _ _ = Wn at *
          refine hK.out _ _ hb ?_
          replace hS := hb
          clear hK K hb
          try simp only [Act.put, List.setIfInBounds_toArray, List.set_cons_zero, List.set_cons_succ]
          refine wpAnyS_one (i := 12) rfl (by kernel_rfl) (by rfl) (fun K hK => ?_)
          have c0 := hP.c0
          have hPa := hP.set0 (.slice A (o.getD ([], [])).1.length c)
          have hPb := hPa.set1 (.slice A' (o.getD ([], [])).2.length c')
          have c1 := hPa.c1
          go_simp
          have hb := And.intro (below_setCell (k := 1) (below_setCell (k := 0) hS.1 (Nat.le_of_lt hPl) (.slice A (o.getD ([], [])).1.length c)) (Nat.le_of_lt hPl) (.slice A' (o.getD ([], [])).2.length c')) ((hS.2.other_cell (j := 0) (Nat.ne_of_lt hPl) (.slice A (o.getD ([], [])).1.length c)).other_cell (j := 1) (Nat.ne_of_lt hPl) (.slice A' (o.getD ([], [])).2.length c'))
          have tA := (sA.off c0.1 (by intro m h; cases h) (.slice A (o.getD ([], [])).1.length c)).off c1.1 (by intro m h; cases h) (.slice A' (o.getD ([], [])).2.length c')
          have tB := (sB.off c0.1 (by intro m h; cases h) (.slice A (o.getD ([], [])).1.length c)).off c1.1 (by intro m h; cases h) (.slice A' (o.getD ([], [])).2.length c')
          refine hK.out _ _ hb ?_
          replace hS := hb
          clear hK K hb
          try simp only [Act.put, List.setIfInBounds_toArray, List.set_cons_zero, List.set_cons_succ]
          refine wpAnyS_take (i := 13) (v := ?_) hS (some 12) rfl rfl (by kernel_rfl) (by kernel_rfl) (by kernel_rfl) (fun _ _ _ h => h) ?_ ?_
          rotate_left 1
          · (refine Or.inl ⟨by rfl, ?_⟩; intro w' hw'; (try go_simp); (try rfl); done)
          try simp only [Act.put, List.setIfInBounds_toArray, List.set_cons_zero, List.set_cons_succ]
          refine wpAnyS_done (by kernel_rfl) ?_ _
          go_wp2_with fail
          go_meet
          exact ⟨_, _, _, _, _, rfl, rfl, hPb, ⟨_, _, rfl, tA, tB⟩, hS⟩
        · (try generalize World.drew _ = Wd at *)
          have hPl := hS.2.lt
          refine wp_alloc_at (some 11) 30 rfl rfl _ (zeroP _) ?_
          have b := ext_alloc_of hS.1 (.cells #[.slice none 0 0, .slice none 0 0] 30 (0, 0))
          have hP := new_pair hS.1
          (try replace hg := hg.below b)
          (try replace hl2 := hl2.below b)
          (try replace hp3 := hp3.below b)
          (try replace sA := sA.below b)
          (try replace sB := sB.below b)
          have hb := And.intro (Below.trans hS.1 (b.mono hS.1.size)) (hS.2.below b)
          clear b
          generalize World.alloc _ _ = Wn at *
          refine hK.out _ _ hb ?_
          replace hS := hb
          clear hK K hb
          try simp only [Act.put, List.setIfInBounds_toArray, List.set_cons_zero, List.set_cons_succ]
          refine wpAnyS_one (i := 7) rfl (by kernel_rfl) (by rfl) (fun K hK => ?_)
          (try generalize World.drew _ = Wd at *)
          go_simp
          have hc := consistent_any _ k hk v2 l m old ol vp ps _ hm.1 hm.2 hl2 (hp.below hS.1) hg hll hz
          rw [hoo.out] at hc
          refine hc.mono ?_; rintro e z3 ⟨v3, rfl, hp3, b⟩
          (try replace hP := hP.below b)
          have hb := And.intro (Below.trans hS.1 (b.mono hS.1.size)) (hS.2.below b)
          clear b hl2 hg hc
          obtain ⟨A, c, A', c', rfl, sA, sB⟩ := pair_open hp3
          refine hK.out _ _ hb ?_
          replace hS := hb
          clear hK K hb
          try simp only [Act.put, List.setIfInBounds_toArray, List.set_cons_zero, List.set_cons_succ]
          refine wpAnyS_take (i := 8) (v := ?_) hS (some 17) rfl rfl (by kernel_rfl) (by kernel_rfl) (by kernel_rfl) (fun _ _ _ h => h) ?_ ?_
          rotate_left 1
          · (refine Or.inl ⟨by rfl, ?_⟩; intro w' hw'; (try go_simp); (try rfl); done)
          try simp only [Act.put, List.setIfInBounds_toArray, List.set_cons_zero, List.set_cons_succ]
          refine wpAnyS_take (i := 9) (v := ?_) hS (some 26) rfl rfl (by kernel_rfl) (by kernel_rfl) (by kernel_rfl) (fun _ _ _ h => h) ?_ ?_
          rotate_left 1
          · (refine Or.inl ⟨by rfl, ?_⟩; intro w' hw'; (try go_simp); (try rfl); done)
          try simp only [Act.put, List.setIfInBounds_toArray, List.set_cons_zero, List.set_cons_succ]
          refine wpAnyS_take (i := 10) (v := ?_) hS (some 27) rfl rfl (by kernel_rfl) (by kernel_rfl) (by kernel_rfl) (fun _ _ _ h => h) ?_ ?_
          rotate_left 1
          · (refine Or.inl ⟨by rfl, ?_⟩; intro w' hw'; (try go_simp); (try rfl); done)
          try simp only [Act.put, List.setIfInBounds_toArray, List.set_cons_zero, List.set_cons_succ]
          refine wpAnyS_one (i := 12) rfl (by kernel_rfl) (by rfl) (fun K hK => ?_)
          have c0 := hP.c0
          have hPa := hP.set0 (.slice A (o.getD ([], [])).1.length c)
          have hPb := hPa.set1 (.slice A' (o.getD ([], [])).2.length c')
          have c1 := hPa.c1
          go_simp
          have hb := And.intro (below_setCell (k := 1) (below_setCell (k := 0) hS.1 (Nat.le_of_lt hPl) (.slice A (o.getD ([], [])).1.length c)) (Nat.le_of_lt hPl) (.slice A' (o.getD ([], [])).2.length c')) ((hS.2.other_cell (j := 0) (Nat.ne_of_lt hPl) (.slice A (o.getD ([], [])).1.length c)).other_cell (j := 1) (Nat.ne_of_lt hPl) (.slice A' (o.getD ([], [])).2.length c'))
          have tA := (sA.off c0.1 (by intro m h; cases h) (.slice A (o.getD ([], [])).1.length c)).off c1.1 (by intro m h; cases h) (.slice A' (o.getD ([], [])).2.length c')
          have tB := (sB.off c0.1 (by intro m h; cases h) (.slice A (o.getD ([], [])).1.length c)).off c1.1 (by intro m h; cases h) (.slice A' (o.getD ([], [])).2.length c')
          refine hK.out _ _ hb ?_
          replace hS := hb
          clear hK K hb
          try simp only [Act.put, List.setIfInBounds_toArray, List.set_cons_zero, List.set_cons_succ]
          refine wpAnyS_take (i := 13) (v := ?_) hS (some 12) rfl rfl (by kernel_rfl) (by kernel_rfl) (by kernel_rfl) (fun _ _ _ h => h) ?_ ?_
          rotate_left 1
          · (refine Or.inl ⟨by rfl, ?_⟩; intro w' hw'; (try go_simp); (try rfl); done)
          try simp only [Act.put, List.setIfInBounds_toArray, List.set_cons_zero, List.set_cons_succ]
          refine wpAnyS_done (by kernel_rfl) ?_ _
          go_wp2_with fail
          go_meet
          exact ⟨_, _, _, _, _, rfl, rfl, hPb, ⟨_, _, rfl, tA, tB⟩, hS⟩
      · (try generalize World.drew _ = Wd at *)
        have hPl := hS.2.lt
        refine wp_alloc_at (some 11) 30 rfl rfl _ (zeroP _) ?_
        have b := ext_alloc_of hS.1 (.cells #[.slice none 0 0, .slice none 0 0] 30 (0, 0))
        have hP := new_pair hS.1
        (try replace hg := hg.below b)
        (try replace hl2 := hl2.below b)
        (try replace hp3 := hp3.below b)
        (try replace sA := sA.below b)
        (try replace sB := sB.below b)
        have hb := And.intro (Below.trans hS.1 (b.mono hS.1.size)) (hS.2.below b)
        clear b
        generalize World.alloc _ _ = Wn at *
        refine hK.out _ _ hb ?_
        replace hS := hb
        clear hK K hb
        try simp only [Act.put, List.setIfInBounds_toArray, List.set_cons_zero, List.set_cons_succ]
        refine wpAnyS_one (i := 3) rfl (by kernel_rfl) (by rfl) (fun K hK => ?_)
        (try generalize World.drew _ = Wd at *)
        go_simp
        (with_reducible refine (own_any vl l _ (hl.below hS.1) hll hz2).mono ?_); rintro e z2 ⟨v2, rfl, hl2, b⟩
        (try replace hP := hP.below b)
        replace hg := hg.below b
        have hb := And.intro (Below.trans hS.1 (b.mono hS.1.size)) (hS.2.below b)
        clear b
        refine hK.out _ _ hb ?_
        replace hS := hb
        clear hK K hb
        try simp only [Act.put, List.setIfInBounds_toArray, List.set_cons_zero, List.set_cons_succ]
        refine wpAnyS_one (i := 7) rfl (by kernel_rfl) (by rfl) (fun K hK => ?_)
        (try generalize World.drew _ = Wd at *)
        go_simp
        have hc := consistent_any _ k hk v2 l m old ol vp ps _ hm.1 hm.2 hl2 (hp.below hS.1) hg hll hz
        rw [hoo.out] at hc
        refine hc.mono ?_; rintro e z3 ⟨v3, rfl, hp3, b⟩
        (try replace hP := hP.below b)
        have hb := And.intro (Below.trans hS.1 (b.mono hS.1.size)) (hS.2.below b)
        clear b hl2 hg hc
        obtain ⟨A, c, A', c', rfl, sA, sB⟩ := pair_open hp3
        refine hK.out _ _ hb ?_
        replace hS := hb
        clear hK K hb
        try simp only [Act.put, List.setIfInBounds_toArray, List.set_cons_zero, List.set_cons_succ]
        refine wpAnyS_take (i := 8) (v := ?_) hS (some 17) rfl rfl (by kernel_rfl) (by kernel_rfl) (by kernel_rfl) (fun _ _ _ h => h) ?_ ?_
        rotate_left 1
        · (refine Or.inl ⟨by rfl, ?_⟩; intro w' hw'; (try go_simp); (try rfl); done)
        try simp only [Act.put, List.setIfInBounds_toArray, List.set_cons_zero, List.set_cons_succ]
        refine wpAnyS_take (i := 9) (v := ?_) hS (some 26) rfl rfl (by kernel_rfl) (by kernel_rfl) (by kernel_rfl) (fun _ _ _ h => h) ?_ ?_
        rotate_left 1
        · (refine Or.inl ⟨by rfl, ?_⟩; intro w' hw'; (try go_simp); (try rfl); done)
        try simp only [Act.put, List.setIfInBounds_toArray, List.set_cons_zero, List.set_cons_succ]
        refine wpAnyS_take (i := 10) (v := ?_) hS (some 27) rfl rfl (by kernel_rfl) (by kernel_rfl) (by kernel_rfl) (fun _ _ _ h => h) ?_ ?_
        rotate_left 1
        · (refine Or.inl ⟨by rfl, ?_⟩; intro w' hw'; (try go_simp); (try rfl); done)
        try simp only [Act.put, List.setIfInBounds_toArray, List.set_cons_zero, List.set_cons_succ]
        refine wpAnyS_one (i := 12) rfl (by kernel_rfl) (by rfl) (fun K hK => ?_)
        have c0 := hP.c0
        have hPa := hP.set0 (.slice A (o.getD ([], [])).1.length c)
        have hPb := hPa.set1 (.slice A' (o.getD ([], [])).2.length c')
        have c1 := hPa.c1
        go_simp
        have hb := And.intro (below_setCell (k := 1) (below_setCell (k := 0) hS.1 (Nat.le_of_lt hPl) (.slice A (o.getD ([], [])).1.length c)) (Nat.le_of_lt hPl) (.slice A' (o.getD ([], [])).2.length c')) ((hS.2.other_cell (j := 0) (Nat.ne_of_lt hPl) (.slice A (o.getD ([], [])).1.length c)).other_cell (j := 1) (Nat.ne_of_lt hPl) (.slice A' (o.getD ([], [])).2.length c'))
        have tA := (sA.off c0.1 (by intro m h; cases h) (.slice A (o.getD ([], [])).1.length c)).off c1.1 (by intro m h; cases h) (.slice A' (o.getD ([], [])).2.length c')
        have tB := (sB.off c0.1 (by intro m h; cases h) (.slice A (o.getD ([], [])).1.length c)).off c1.1 (by intro m h; cases h) (.slice A' (o.getD ([], [])).2.length c')
        refine hK.out _ _ hb ?_
        replace hS := hb
        clear hK K hb
        try simp only [Act.put, List.setIfInBounds_toArray, List.set_cons_zero, List.set_cons_succ]
        refine wpAnyS_take (i := 13) (v := ?_) hS (some 12) rfl rfl (by kernel_rfl) (by kernel_rfl) (by kernel_rfl) (fun _ _ _ h => h) ?_ ?_
        rotate_left 1
        · (refine Or.inl ⟨by rfl, ?_⟩; intro w' hw'; (try go_simp); (try rfl); done)
        try simp only [Act.put, List.setIfInBounds_toArray, List.set_cons_zero, List.set_cons_succ]
        refine wpAnyS_done (by kernel_rfl) ?_ _
        go_wp2_with fail
        go_meet
        exact ⟨_, _, _, _, _, rfl, rfl, hPb, ⟨_, _, rfl, tA, tB⟩, hS⟩
    · (try generalize World.drew _ = Wd at *)
      have hPl := hS.2.lt
      refine wp_alloc_at (some 11) 30 rfl rfl _ (zeroP _) ?_
      have b := ext_alloc_of hS.1 (.cells #[.slice none 0 0, .slice none 0 0] 30 (0, 0))
      have hP := new_pair hS.1
      (try replace hg := hg.below b)
      (try replace hl2 := hl2.below b)
      (try replace hp3 := hp3.below b)
      (try replace sA := sA.below b)
      (try replace sB := sB.below b)
      have hb := And.intro (Below.trans hS.1 (b.mono hS.1.size)) (hS.2.below b)
      clear b
      generalize World.alloc _ _ = Wn at *
      refine hK.out _ _ hb ?_
      replace hS := hb
      clear hK K hb
      try simp only [Act.put, List.setIfInBounds_toArray, List.set_cons_zero, List.set_cons_succ]
      refine wpAnyS_one (i := 1) rfl (by kernel_rfl) (by rfl) (fun K hK => ?_)
      (try generalize World.drew _ = Wd at *)
      go_simp
      (with_reducible refine (hash_any k _).mono ?_); rintro e z1 ⟨rfl, hg, b⟩
      (try replace hP := hP.below b)
      have hb := And.intro (Below.trans hS.1 (b.mono hS.1.size)) (hS.2.below b)
      clear b
      refine hK.out _ _ hb ?_
      replace hS := hb
      clear hK K hb
      try simp only [Act.put, List.setIfInBounds_toArray, List.set_cons_zero, List.set_cons_succ]
      refine wpAnyS_one (i := 3) rfl (by kernel_rfl) (by rfl) (fun K hK => ?_)
      (try generalize World.drew _ = Wd at *)
      go_simp
      (with_reducible refine (own_any vl l _ (hl.below hS.1) hll hz2).mono ?_); rintro e z2 ⟨v2, rfl, hl2, b⟩
      (try replace hP := hP.below b)
      replace hg := hg.below b
      have hb := And.intro (Below.trans hS.1 (b.mono hS.1.size)) (hS.2.below b)
      clear b
      refine hK.out _ _ hb ?_
      replace hS := hb
      clear hK K hb
      try simp only [Act.put, List.setIfInBounds_toArray, List.set_cons_zero, List.set_cons_succ]
      refine wpAnyS_one (i := 7) rfl (by kernel_rfl) (by rfl) (fun K hK => ?_)
      (try generalize World.drew _ = Wd at *)
      go_simp
      have hc := consistent_any _ k hk v2 l m old ol vp ps _ hm.1 hm.2 hl2 (hp.below hS.1) hg hll hz
      rw [hoo.out] at hc
      refine hc.mono ?_; rintro e z3 ⟨v3, rfl, hp3, b⟩
      (try replace hP := hP.below b)
      have hb := And.intro (Below.trans hS.1 (b.mono hS.1.size)) (hS.2.below b)
      clear b hl2 hg hc
      obtain ⟨A, c, A', c', rfl, sA, sB⟩ := pair_open hp3
      refine hK.out _ _ hb ?_
      replace hS := hb
      clear hK K hb
      try simp only [Act.put, List.setIfInBounds_toArray, List.set_cons_zero, List.set_cons_succ]
      refine wpAnyS_take (i := 8) (v := ?_) hS (some 17) rfl rfl (by kernel_rfl) (by kernel_rfl) (by kernel_rfl) (fun _ _ _ h => h) ?_ ?_
      rotate_left 1
      · (refine Or.inl ⟨by rfl, ?_⟩; intro w' hw'; (try go_simp); (try rfl); done)
      try simp only [Act.put, List.setIfInBounds_toArray, List.set_cons_zero, List.set_cons_succ]
      refine wpAnyS_take (i := 9) (v := ?_) hS (some 26) rfl rfl (by kernel_rfl) (by kernel_rfl) (by kernel_rfl) (fun _ _ _ h => h) ?_ ?_
      rotate_left 1
      · (refine Or.inl ⟨by rfl, ?_⟩; intro w' hw'; (try go_simp); (try rfl); done)
      try simp only [Act.put, List.setIfInBounds_toArray, List.set_cons_zero, List.set_cons_succ]
      refine wpAnyS_take (i := 10) (v := ?_) hS (some 27) rfl rfl (by kernel_rfl) (by kernel_rfl) (by kernel_rfl) (fun _ _ _ h => h) ?_ ?_
      rotate_left 1
      · (refine Or.inl ⟨by rfl, ?_⟩; intro w' hw'; (try go_simp); (try rfl); done)
      try simp only [Act.put, List.setIfInBounds_toArray, List.set_cons_zero, List.set_cons_succ]
      refine wpAnyS_one (i := 12) rfl (by kernel_rfl) (by rfl) (fun K hK => ?_)
      have c0 := hP.c0
      have hPa := hP.set0 (.slice A (o.getD ([], [])).1.length c)
      have hPb := hPa.set1 (.slice A' (o.getD ([], [])).2.length c')
      have c1 := hPa.c1
      go_simp
      have hb := And.intro (below_setCell (k := 1) (below_setCell (k := 0) hS.1 (Nat.le_of_lt hPl) (.slice A (o.getD ([], [])).1.length c)) (Nat.le_of_lt hPl) (.slice A' (o.getD ([], [])).2.length c')) ((hS.2.other_cell (j := 0) (Nat.ne_of_lt hPl) (.slice A (o.getD ([], [])).1.length c)).other_cell (j := 1) (Nat.ne_of_lt hPl) (.slice A' (o.getD ([], [])).2.length c'))
      have tA := (sA.off c0.1 (by intro m h; cases h) (.slice A (o.getD ([], [])).1.length c)).off c1.1 (by intro m h; cases h) (.slice A' (o.getD ([], [])).2.length c')
      have tB := (sB.off c0.1 (by intro m h; cases h) (.slice A (o.getD ([], [])).1.length c)).off c1.1 (by intro m h; cases h) (.slice A' (o.getD ([], [])).2.length c')
      refine hK.out _ _ hb ?_
      replace hS := hb
      clear hK K hb
      try simp only [Act.put, List.setIfInBounds_toArray, List.set_cons_zero, List.set_cons_succ]
      refine wpAnyS_take (i := 13) (v := ?_) hS (some 12) rfl rfl (by kernel_rfl) (by kernel_rfl) (by kernel_rfl) (fun _ _ _ h => h) ?_ ?_
      rotate_left 1
      · (refine Or.inl ⟨by rfl, ?_⟩; intro w' hw'; (try go_simp); (try rfl); done)
      try simp only [Act.put, List.setIfInBounds_toArray, List.set_cons_zero, List.set_cons_succ]
      refine wpAnyS_done (by kernel_rfl) ?_ _
      go_wp2_with fail
      go_meet
      exact ⟨_, _, _, _, _, rfl, rfl, hPb, ⟨_, _, rfl, tA, tB⟩, hS⟩
  case rest =>
    obtain ⟨P, A, c, A', c', rfl, rfl, p4, hp4, b4, hO4⟩ := hcut
    have hr4 := hri _ b4
    have hww := fun w' => wakes_any w'
    clear hri hoo hl hp b0 hO
    generalize (o.getD ([], [])).1.length = n1 at *
    generalize (o.getD ([], [])).2.length = n2 at *
    go_wp2_with ((with_reducible refine at_load ?_); refine arr_dg.loadL hO4 (by rfl) ol _ rfl rfl ?_)
    refine hr4.mono ?_; rintro e w5 ⟨v5, rfl, hp5, b5⟩
    obtain ⟨D, d, D', d', rfl, _, _⟩ := pair_open hp5
    generalize (o.getD ([], [])).1.length = m1 at *
    generalize (o.getD ([], [])).2.length = m2 at *
    have e6 := ext_alloc w5 (.cells #[.slice D m1 d, .slice D' m2 d'] 33 (0, 0))
    have p6 : PR 33 (w5.alloc (.cells #[.slice D m1 d, .slice D' m2 d'] 33 (0, 0))) w5.heap.size _ _ := heap_alloc_new _ _
    have x6 := Below.trans b4 ((Ext.trans b5 e6).mono b4.size)
    have q4 := p4.below (Ext.trans b5 e6)
    have his := is_same _ _ o _ (hp4.below (Ext.trans b5 e6)) (hp5.below e6)
    have c40 := q4.c0.1
    have c41 := q4.c1.1
    have c60 := p6.c0.1
    have c61 := p6.c1.1
    generalize o.isSome = os at *
    clear hr4 e6 p4 hp4 hp5 b5 b4 hO4
    go_wp2_with fail
    refine his.mono ?_; rintro e w7 ⟨rfl, b7⟩
    have x7 := Below.trans x6 (b7.mono x6.size)
    have qs : (os == os) = true := beq_iff_eq.2 rfl
    clear his c40 c41 c60 c61
    go_wp2_with fail
    refine (hww _).mono ?_; rintro e w8 ⟨rfl, b8⟩
    go_wp2_with fail
    go_ret
    exact ⟨rfl, Below.trans x7 (b8.mono x7.size)⟩
end Go.Proofs.Ytnpbapefjbfndaa

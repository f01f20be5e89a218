/- The law ExtractWeak, walked. -/
import Derived.Test.YtnpbapefjbfndaaZExlA
import Derived.Deep.DeepCutAuto
set_option linter.unusedVariables false
set_option linter.unusedSimpArgs false
set_option maxRecDepth 10000
namespace Go.Proofs.Ytnpbapefjbfndaa
open Go.RowKit
attribute [local go_sem high] dg_cells guard_dg

theorem may_told {k m : Nat} {o : Option (List UInt8 × List UInt8)} (h : OkP k m o) : mayL k (o.getD ([], [])).1 (o.getD ([], [])).2 = o.isSome ∧ (o.getD ([], [])).1.length ≤ m ∧ (o.getD ([], [])).2.length ≤ m := by
  cases o with
  | none => exact ⟨by unfold mayL; simp, by simp, by simp⟩
  | some p => exact h p.1 p.2 rfl
theorem weak_same {k n : Nat} {l : List (List UInt8)} {q : List UInt8} (hn : n < l.length) (hl : l.length < 2 ^ 63) (hh : hashL k (0 :: q) = hashL k (0 :: l.getD n [])) :
    (includedL k l n q (pathN k l.length l n)).isSome = !decide (q = l.getD n []) := by
  unfold includedL
  rw [Int.toNat_natCast]
  by_cases hq : q = l.getD n []
  · rw [if_pos (Or.inr (Or.inr hq)), decide_eq_true hq]; rfl
  · obtain ⟨h1, h2, h3⟩ := upN_path (k := k) (b := q) l.length l n (Nat.le_refl _) hl hn hh
    rw [if_neg (by intro hc; rcases hc with hc | hc | hc; omega; omega; exact hq hc), if_pos ⟨h1, h2⟩, decide_eq_false hq, h3 hq]; rfl
theorem rem_at (x : Int) (n : Nat) (hn : n ≠ 0) : ∃ a : Nat, a < n ∧ IntKind.u64.wrap x % (n : Int) = (a : Int) := by
  have h1 := Int.emod_nonneg (IntKind.u64.wrap x) (b := (n : Int)) (by omega)
  have h2 := Int.emod_lt_of_pos (IntKind.u64.wrap x) (b := (n : Int)) (by omega)
  exact ⟨(IntKind.u64.wrap x % (n : Int)).toNat, by omega, by omega⟩
theorem wrap_id (n : Nat) (h : n ≤ 4611686018427387904) : wrap64 (n : Int) = n := by unfold wrap64; omega
theorem wrap_next (n : Nat) (h : n ≤ 1048576) : wrap64 (1 + wrap64 (n : Int)) = ((n + 1 : Nat) : Int) := by
  rw [wrap_id n (by omega), show (1 : Int) + (n : Int) = ((n + 1 : Nat) : Int) by omega]
  exact wrap_id (n + 1) (by omega)
set_option maxHeartbeats 16000000 in
theorem law_ExtractWeak (bits : Int) (vl : Value) (l : List (List UInt8)) (i : Int) (vq : Value) (q : List (List UInt8)) (m : Int) (old : List UInt8) (w : World) (hbits : -9223372036854775808 ≤ bits ∧ bits ≤ 9223372036854775807)
    (hl : SlX w vl l) (hls : (l.map fun z => z.length + 1).sum ≤ 1048576) (hi : -9223372036854775808 ≤ i ∧ i ≤ 9223372036854775807) (hq : SlX w vq q) (hqs : (q.map fun z => z.length + 1).sum ≤ 1048576) (hm : -9223372036854775808 ≤ m ∧ m ≤ 9223372036854775807) (ol : old.length = 32) :
    Calls Try.prog 7 #[.int .i64 bits, vl, .int .i64 i, vq, .int .i64 m, dg old] w fun e w' => e = .returned (.bool true) ∧ Below w.heap.size w w' := by
  obtain ⟨q1, q2⟩ := sum_len l
  obtain ⟨q3, q4⟩ := sum_len q
  have hll : l.length ≤ 1048576 := by omega
  have hql : q.length ≤ 1048576 := by omega
  have hz : ∀ z ∈ l, z.length ≤ 1048576 := fun z h => by have := q2 z h; omega
  have hqz : ∀ z ∈ q, z.length ≤ 1048576 := fun z h => by have := q4 z h; omega
  clear q1 q2 q3 q4 hls hqs
  have b0 := ext_alloc w (.cells (bs old).toArray 38 (0, 0))
  have hO : RowT 38 _ w.heap.size old := heap_alloc_new w (.cells (bs old).toArray 38 (0, 0))
  have hkept := kept_any bits (w.alloc (.cells (bs old).toArray 38 (0, 0))) hbits.1 hbits.2
  obtain ⟨A, c, rfl, hc, hcm⟩ := hl.len
  obtain ⟨A', c', rfl, hc', hcm'⟩ := hq.len
  change Calls _ _ #[_, _, _, _, _, .agg (bs old).toArray] _ _
  go_enter Try.func7, Try.ntmps7
  go_wp2_with fail
  generalize World.alloc w _ = W at *
  refine hkept.mono ?_; rintro e w1 ⟨⟨k, hk, rfl⟩, rfl⟩
  clear hkept
  go_wp2_with fail
  refine (hash_any k _).mono ?_; rintro e w1 ⟨rfl, hg, x1⟩
  have hO1 := hO.below x1
  have x1 : Below w.heap.size w w1 := Below.trans b0 (x1.mono b0.size)
  by_cases h0 : l.length = 0
  · rw [h0] at *
    go_wp2_with fail
    refine (wakes_any _).mono ?_; rintro e w8 ⟨rfl, b8⟩
    go_wp2_with fail
    go_ret
    exact ⟨rfl, Below.trans x1 (b8.mono x1.size)⟩
  have d0 : decide ((l.length : Int) = 0) = false := decide_eq_false (by omega)
  have d0' : decide (l.length = 0) = false := decide_eq_false h0
  have hr1 : Hid (∃ a : Nat, a < l.length ∧ IntKind.u64.wrap i % (l.length : Int) = (a : Int)) := rem_at i l.length h0
  have hr2 : Hid (∃ a : Nat, a < l.length ∧ IntKind.u64.wrap m % (l.length : Int) = (a : Int)) := rem_at m l.length h0
  have hwi : 0 ≤ IntKind.u64.wrap i ∧ IntKind.u64.wrap i < 18446744073709551616 := by rw [IntKind.wrap_u64]; omega
  have hwm : 0 ≤ IntKind.u64.wrap m ∧ IntKind.u64.wrap m < 18446744073709551616 := by rw [IntKind.wrap_u64]; omega
  generalize hxi : IntKind.u64.wrap i = xi at *
  generalize hxm : IntKind.u64.wrap m = xm at *
  go_upto_region 6 with fail
  obtain ⟨n, hn, en⟩ := hr1.out
  have hw1 : wrap64 (n : Int) = n := wrap_id n (by omega)
  rw [en, hw1]
  clear en hw1 hr1 hwi
  have hpa := rpath_any k hk l.length (.slice A l.length c) l n w1 (Nat.le_refl _) hll hn hz (hl.below x1)
  go_wp2_with fail
  refine hpa.mono ?_; rintro e w2 ⟨vp, rfl, op, x2⟩
  have hp := op.sl
  have hsame := fun (b : List UInt8) h => weak_same (k := k) (q := b) hn (by omega) h
  have hokp := fun (b : List UInt8) (h : b.length ≤ 1048576) => includedL_ok (k := k) (l := l) (i := (n : Int)) h (by omega) hz hp.2
  generalize pathN k l.length l n = path at *
  have hg2 := hg.below x2
  have xw : Below w.heap.size w w2 := Below.trans x1 (x2.mono x1.size)
  have hl2 := hl.below xw
  have hq2 := hq.below xw
  have hO2 := hO1.below x2
  clear op hO1 hO hg x1 x2 hpa b0
  obtain ⟨ad, u, rfl, lcell, hu, _⟩ := hl2.get hn
  have hux := hz _ (List.getElem_mem hn)
  rw [show l[n] = l.getD n [] by simp [hn]] at hux
  generalize hx : l.getD n [] = x at *
  obtain ⟨Au, cu, rfl, _⟩ := id hu
  unfold hv
  generalize W.heap.size = G at *
  clear d0 d0' hcm hcm' hl hq hx
  have hin := fun b vb hbl w' (h : Ext w2 w') (hb : SlB w' vb b) => included_any G k hk (.slice (some ad) l.length c) l n vb b vp path w' (by omega) (by omega) (hl2.below h) hb (hp.below h) (hg2.below h) hll hz hbl
  unfold hv at hin
  have fl := fun w' (h : Ext w2 w') => (h.cell (World.block_lt_of_cell? _ _ lcell)).trans lcell
  have i0 : (0 : Int) ≤ n := by omega
  have i1 : (n : Int) < l.length := by omega
  go_wp2_with fail
  go_loopw [16] (fun ii wr => ∃ j : Nat, j ≤ q.length ∧ ii = .int .i64 j ∧ Ext w2 wr) (fun ii _ => q.length - (intOf ii).toNat)
  case atStart => exact ⟨0, by omega, rfl, Ext.refl _⟩
  case round =>
    obtain ⟨j, hj, rfl, xr⟩ := hrel
    by_cases hlt : j < q.length
    · have hk1 : (j : Int) < q.length := by omega
      have hk0 : (0 : Int) ≤ j := by omega
      obtain ⟨aq, uq, rfl, qcell, hqj, _⟩ := (hq2.below xr).get hlt
      have hqx := hqz _ (List.getElem_mem hlt)
      rw [show q[j] = q.getD j [] by simp [hlt]] at hqx
      generalize q.getD j [] = y at *
      obtain ⟨Ay, cy, rfl, _⟩ := id hqj
      have hin := hin y _ hqx wr xr hqj
      have hok := hokp y hqx
      have hsm := hsame y
      have fl0 := fl _ xr
      go_wp2_with fail
      refine hin.mono ?_; rintro e w3 ⟨v3, rfl, hp3, b3⟩
      obtain ⟨B, d, B', d', rfl, sA, sB⟩ := pair_open hp3
      generalize hoo : includedL k l n y path = o at *
      obtain ⟨hml, ho1, ho2⟩ := may_told hok
      clear hin hok hoo hp3
      generalize (o.getD ([], [])).1 = t1 at *
      generalize (o.getD ([], [])).2 = t2 at *
      have e4 := ext_alloc w3 (.cells #[.slice B t1.length d, .slice B' t2.length d'] 30)
      have p4 : PR 30 (w3.alloc (.cells #[.slice B t1.length d, .slice B' t2.length d'] 30)) w3.heap.size (.slice B t1.length d) (.slice B' t2.length d') := heap_alloc_new _ _
      have sA4 := sA.below e4
      have sB4 := sB.below e4
      have b4 := Ext.trans b3 e4
      have x4 := Ext.trans xr b4
      have hqj4 := hqj.below b4
      have qcell4 : ∀ w', Ext _ w' → _ := fun w' (h : Ext (w3.alloc (.cells #[.slice B t1.length d, .slice B' t2.length d'] 30)) w') => ((Ext.trans b4 h).cell (World.block_lt_of_cell? _ _ qcell)).trans qcell
      clear e4 sA sB b3 b4 qcell fl0 hqj xr
      go_upto_region 11 with fail
      generalize World.alloc w3 _ = W4 at *
      generalize w3.heap.size = P at *
      have fl4 := fun w' (h : Ext W4 w') => fl w' (Ext.trans x4 h)
      have hu4 := hu.below x4
      have hg4 := hg2.below x4
      have hd1 := hashL_length k (0 :: y)
      have hd2 := hashL_length k (0 :: x)
      have qe := fun w' => arr_dg.eql (hashL k (0 :: y)) (hashL k (0 :: x)) hd1 hd2 w'
      generalize hsmm : (hashL k (0 :: y) == hashL k (0 :: x)) = sm at qe
      go_cut [19] (fun s19 wx => s19 = .bool sm ∧ Ext W4 wx)
      case first =>
        have hS : Ext W4 W4.drew := ext_drew _
        refine wp_region_S (fun w' => Ext W4 w') (by kernel_rfl) ?_
        refine wpAnyS_take (i := 0) (v := ?_) hS (some 61) rfl rfl (by kernel_rfl) (by kernel_rfl) (by kernel_rfl) (fun _ _ _ h => h) ?_ ?_
        rotate_left 1
        · (refine Or.inl ⟨by rfl, ?_⟩; intro w' hw'; have qf1 := fl4 _ hw'; have qf2 := qcell4 _ hw'; (try go_simp); (try rfl); done)
        try simp only [Act.put, List.setIfInBounds_toArray, List.set_cons_zero, List.set_cons_succ]
        refine wpAnyS_take (i := 2) (v := ?_) hS (some 63) rfl rfl (by kernel_rfl) (by kernel_rfl) (by kernel_rfl) (fun _ _ _ h => h) ?_ ?_
        rotate_left 1
        · (refine Or.inl ⟨by rfl, ?_⟩; intro w' hw'; have qf1 := fl4 _ hw'; have qf2 := qcell4 _ hw'; (try go_simp); (try rfl); done)
        try simp only [Act.put, List.setIfInBounds_toArray, List.set_cons_zero, List.set_cons_succ]
        refine wpAnyS_take (i := 3) (v := ?_) hS (some 64) rfl rfl (by kernel_rfl) (by kernel_rfl) (by kernel_rfl) (fun _ _ _ h => h) ?_ ?_
        rotate_left 1
        · (refine Or.inl ⟨by rfl, ?_⟩; intro w' hw'; have qf1 := fl4 _ hw'; have qf2 := qcell4 _ hw'; (try go_simp); (try rfl); done)
        try simp only [Act.put, List.setIfInBounds_toArray, List.set_cons_zero, List.set_cons_succ]
        refine wpAnyS_take (i := 4) (v := ?_) hS (some 65) rfl rfl (by kernel_rfl) (by kernel_rfl) (by kernel_rfl) (fun _ _ _ h => h) ?_ ?_
        rotate_left 1
        · (refine Or.inl ⟨by rfl, ?_⟩; intro w' hw'; have qf1 := fl4 _ hw'; have qf2 := qcell4 _ hw'; (try go_simp); (try rfl); done)
        try simp only [Act.put, List.setIfInBounds_toArray, List.set_cons_zero, List.set_cons_succ]
        refine wpAnyS_take (i := 5) (v := ?_) hS (some 66) rfl rfl (by kernel_rfl) (by kernel_rfl) (by kernel_rfl) (fun _ _ _ h => h) ?_ ?_
        rotate_left 1
        · (refine Or.inl ⟨by rfl, ?_⟩; intro w' hw'; have qf1 := fl4 _ hw'; have qf2 := qcell4 _ hw'; (try go_simp); (try rfl); done)
        try simp only [Act.put, List.setIfInBounds_toArray, List.set_cons_zero, List.set_cons_succ]
        refine wpAnyS_take (i := 8) (v := ?_) hS (some 69) rfl rfl (by kernel_rfl) (by kernel_rfl) (by kernel_rfl) (fun _ _ _ h => h) ?_ ?_
        rotate_left 1
        · (refine Or.inl ⟨by rfl, ?_⟩; intro w' hw'; have qf1 := fl4 _ hw'; have qf2 := qcell4 _ hw'; (try go_simp); (try rfl); done)
        try simp only [Act.put, List.setIfInBounds_toArray, List.set_cons_zero, List.set_cons_succ]
        refine wpAnyS_take (i := 10) (v := ?_) hS (some 71) rfl rfl (by kernel_rfl) (by kernel_rfl) (by kernel_rfl) (fun _ _ _ h => h) ?_ ?_
        rotate_left 1
        · (refine Or.inl ⟨by rfl, ?_⟩; intro w' hw'; have qf1 := fl4 _ hw'; have qf2 := qcell4 _ hw'; (try go_simp); (try rfl); done)
        try simp only [Act.put, List.setIfInBounds_toArray, List.set_cons_zero, List.set_cons_succ]
        refine wpAnyS_take (i := 11) (v := ?_) hS (some 72) rfl rfl (by kernel_rfl) (by kernel_rfl) (by kernel_rfl) (fun _ _ _ h => h) ?_ ?_
        rotate_left 1
        · (refine Or.inl ⟨by rfl, ?_⟩; intro w' hw'; have qf1 := fl4 _ hw'; have qf2 := qcell4 _ hw'; (try go_simp); (try rfl); done)
        try simp only [Act.put, List.setIfInBounds_toArray, List.set_cons_zero, List.set_cons_succ]
        refine wpAnyS_take (i := 12) (v := ?_) hS (some 73) rfl rfl (by kernel_rfl) (by kernel_rfl) (by kernel_rfl) (fun _ _ _ h => h) ?_ ?_
        rotate_left 1
        · (refine Or.inl ⟨by rfl, ?_⟩; intro w' hw'; have qf1 := fl4 _ hw'; have qf2 := qcell4 _ hw'; (try go_simp); (try rfl); done)
        try simp only [Act.put, List.setIfInBounds_toArray, List.set_cons_zero, List.set_cons_succ]
        refine wpAnyS_take (i := 13) (v := ?_) hS (some 74) rfl rfl (by kernel_rfl) (by kernel_rfl) (by kernel_rfl) (fun _ _ _ h => h) ?_ ?_
        rotate_left 1
        · (refine Or.inl ⟨by rfl, ?_⟩; intro w' hw'; have qf1 := fl4 _ hw'; have qf2 := qcell4 _ hw'; (try go_simp); (try rfl); done)
        try simp only [Act.put, List.setIfInBounds_toArray, List.set_cons_zero, List.set_cons_succ]
        refine wpAnyS_fork2 (i := 1) (j := 9) (by kernel_rfl) rfl (by rfl) rfl (by rfl) (fun K hK => ?_) (fun K hK => ?_)
        · refine wp_b0_at (some 62) rfl rfl ?_
          intro g1 Wb o1 xb
          (try replace o2 := o2.below xb)
          have hb := Ext.trans hS xb
          clear xb
          refine hK.out _ _ hb ?_
          replace hS := hb
          clear hK K hb
          try simp only [Act.put, List.setIfInBounds_toArray, List.set_cons_zero, List.set_cons_succ]
          refine wpAnyS_fork2 (i := 6) (j := 9) (by kernel_rfl) rfl (by rfl) rfl (by rfl) (fun K hK => ?_) (fun K hK => ?_)
          · refine wp_ap1_at (some 67) _ _ rfl rfl rfl o1 rfl (hqj4.below hS) (by omega) ?_
            intro v1 Wb s1 xb
            (try replace o2 := o2.below xb)
            have hb := Ext.trans hS xb
            clear xb o1
            refine hK.out _ _ hb ?_
            replace hS := hb
            clear hK K hb
            try simp only [Act.put, List.setIfInBounds_toArray, List.set_cons_zero, List.set_cons_succ]
            refine wpAnyS_fork2 (i := 7) (j := 9) (by kernel_rfl) rfl (by rfl) rfl (by rfl) (fun K hK => ?_) (fun K hK => ?_)
            · go_simp
              refine (hash1_any G k v1 (0 :: y) _ s1 (by simp; omega) hk (hg4.below hS)).mono ?_; rintro e Wb ⟨rfl, xb⟩
              (try replace o2 := o2.below xb)
              have hb := Ext.trans hS xb
              clear xb s1
              refine hK.out _ _ hb ?_
              replace hS := hb
              clear hK K hb
              try simp only [Act.put, List.setIfInBounds_toArray, List.set_cons_zero, List.set_cons_succ]
              refine wpAnyS_one (i := 9) rfl (by kernel_rfl) (by rfl) (fun K hK => ?_)
              refine wp_b0_at (some 70) rfl rfl ?_
              intro g2 Wb o2 xb
              (try replace o1 := o1.below xb)
              (try replace s1 := s1.below xb)
              have hb := Ext.trans hS xb
              clear xb
              refine hK.out _ _ hb ?_
              replace hS := hb
              clear hK K hb
              try simp only [Act.put, List.setIfInBounds_toArray, List.set_cons_zero, List.set_cons_succ]
              refine wpAnyS_one (i := 14) rfl (by kernel_rfl) (by rfl) (fun K hK => ?_)
              refine wp_ap1_at (some 75) _ _ rfl rfl rfl o2 rfl (hu4.below hS) (by omega) ?_
              intro v2 Wb s2 xb
              have hb := Ext.trans hS xb
              clear xb o2
              refine hK.out _ _ hb ?_
              replace hS := hb
              clear hK K hb
              try simp only [Act.put, List.setIfInBounds_toArray, List.set_cons_zero, List.set_cons_succ]
              refine wpAnyS_one (i := 15) rfl (by kernel_rfl) (by rfl) (fun K hK => ?_)
              go_simp
              refine (hash1_any G k v2 (0 :: x) _ s2 (by simp; omega) hk (hg4.below hS)).mono ?_; rintro e Wb ⟨rfl, xb⟩
              have hb := Ext.trans hS xb
              clear xb s2
              refine hK.out _ _ hb ?_
              replace hS := hb
              clear hK K hb
              try simp only [Act.put, List.setIfInBounds_toArray, List.set_cons_zero, List.set_cons_succ]
              refine wpAnyS_take (i := 16) (v := ?_) hS (some 77) rfl rfl (by kernel_rfl) (by kernel_rfl) (by kernel_rfl) (fun _ _ _ h => h) ?_ ?_
              rotate_left 1
              · (refine Or.inl ⟨by rfl, ?_⟩; intro w' hw'; have qf1 := fl4 _ hw'; have qf2 := qcell4 _ hw'; (try go_simp); (try rfl); done)
              try simp only [Act.put, List.setIfInBounds_toArray, List.set_cons_zero, List.set_cons_succ]
              refine wpAnyS_take (i := 17) (v := ?_) hS (some 19) rfl rfl (by kernel_rfl) (by kernel_rfl) (by kernel_rfl) (fun _ _ _ h => h) ?_ ?_
              rotate_left 1
              · (refine Or.inl ⟨by rfl, ?_⟩; intro w' hw'; have qf1 := fl4 _ hw'; have qf2 := qcell4 _ hw'; (try go_simp); (try rfl); done)
              try simp only [Act.put, List.setIfInBounds_toArray, List.set_cons_zero, List.set_cons_succ]
              refine wpAnyS_done (by kernel_rfl) ?_ _
              go_wp2_with fail
              go_meet
              exact ⟨rfl, hS⟩
            · refine wp_b0_at (some 70) rfl rfl ?_
              intro g2 Wb o2 xb
              (try replace o1 := o1.below xb)
              (try replace s1 := s1.below xb)
              have hb := Ext.trans hS xb
              clear xb
              refine hK.out _ _ hb ?_
              replace hS := hb
              clear hK K hb
              try simp only [Act.put, List.setIfInBounds_toArray, List.set_cons_zero, List.set_cons_succ]
              refine wpAnyS_one (i := 7) rfl (by kernel_rfl) (by rfl) (fun K hK => ?_)
              go_simp
              refine (hash1_any G k v1 (0 :: y) _ s1 (by simp; omega) hk (hg4.below hS)).mono ?_; rintro e Wb ⟨rfl, xb⟩
              (try replace o2 := o2.below xb)
              have hb := Ext.trans hS xb
              clear xb s1
              refine hK.out _ _ hb ?_
              replace hS := hb
              clear hK K hb
              try simp only [Act.put, List.setIfInBounds_toArray, List.set_cons_zero, List.set_cons_succ]
              refine wpAnyS_one (i := 14) rfl (by kernel_rfl) (by rfl) (fun K hK => ?_)
              refine wp_ap1_at (some 75) _ _ rfl rfl rfl o2 rfl (hu4.below hS) (by omega) ?_
              intro v2 Wb s2 xb
              have hb := Ext.trans hS xb
              clear xb o2
              refine hK.out _ _ hb ?_
              replace hS := hb
              clear hK K hb
              try simp only [Act.put, List.setIfInBounds_toArray, List.set_cons_zero, List.set_cons_succ]
              refine wpAnyS_one (i := 15) rfl (by kernel_rfl) (by rfl) (fun K hK => ?_)
              go_simp
              refine (hash1_any G k v2 (0 :: x) _ s2 (by simp; omega) hk (hg4.below hS)).mono ?_; rintro e Wb ⟨rfl, xb⟩
              have hb := Ext.trans hS xb
              clear xb s2
              refine hK.out _ _ hb ?_
              replace hS := hb
              clear hK K hb
              try simp only [Act.put, List.setIfInBounds_toArray, List.set_cons_zero, List.set_cons_succ]
              refine wpAnyS_take (i := 16) (v := ?_) hS (some 77) rfl rfl (by kernel_rfl) (by kernel_rfl) (by kernel_rfl) (fun _ _ _ h => h) ?_ ?_
              rotate_left 1
              · (refine Or.inl ⟨by rfl, ?_⟩; intro w' hw'; have qf1 := fl4 _ hw'; have qf2 := qcell4 _ hw'; (try go_simp); (try rfl); done)
              try simp only [Act.put, List.setIfInBounds_toArray, List.set_cons_zero, List.set_cons_succ]
              refine wpAnyS_take (i := 17) (v := ?_) hS (some 19) rfl rfl (by kernel_rfl) (by kernel_rfl) (by kernel_rfl) (fun _ _ _ h => h) ?_ ?_
              rotate_left 1
              · (refine Or.inl ⟨by rfl, ?_⟩; intro w' hw'; have qf1 := fl4 _ hw'; have qf2 := qcell4 _ hw'; (try go_simp); (try rfl); done)
              try simp only [Act.put, List.setIfInBounds_toArray, List.set_cons_zero, List.set_cons_succ]
              refine wpAnyS_done (by kernel_rfl) ?_ _
              go_wp2_with fail
              go_meet
              exact ⟨rfl, hS⟩
          · refine wp_b0_at (some 70) rfl rfl ?_
            intro g2 Wb o2 xb
            (try replace o1 := o1.below xb)
            (try replace s1 := s1.below xb)
            have hb := Ext.trans hS xb
            clear xb
            refine hK.out _ _ hb ?_
            replace hS := hb
            clear hK K hb
            try simp only [Act.put, List.setIfInBounds_toArray, List.set_cons_zero, List.set_cons_succ]
            refine wpAnyS_one (i := 6) rfl (by kernel_rfl) (by rfl) (fun K hK => ?_)
            refine wp_ap1_at (some 67) _ _ rfl rfl rfl o1 rfl (hqj4.below hS) (by omega) ?_
            intro v1 Wb s1 xb
            (try replace o2 := o2.below xb)
            have hb := Ext.trans hS xb
            clear xb o1
            refine hK.out _ _ hb ?_
            replace hS := hb
            clear hK K hb
            try simp only [Act.put, List.setIfInBounds_toArray, List.set_cons_zero, List.set_cons_succ]
            refine wpAnyS_one (i := 7) rfl (by kernel_rfl) (by rfl) (fun K hK => ?_)
            go_simp
            refine (hash1_any G k v1 (0 :: y) _ s1 (by simp; omega) hk (hg4.below hS)).mono ?_; rintro e Wb ⟨rfl, xb⟩
            (try replace o2 := o2.below xb)
            have hb := Ext.trans hS xb
            clear xb s1
            refine hK.out _ _ hb ?_
            replace hS := hb
            clear hK K hb
            try simp only [Act.put, List.setIfInBounds_toArray, List.set_cons_zero, List.set_cons_succ]
            refine wpAnyS_one (i := 14) rfl (by kernel_rfl) (by rfl) (fun K hK => ?_)
            refine wp_ap1_at (some 75) _ _ rfl rfl rfl o2 rfl (hu4.below hS) (by omega) ?_
            intro v2 Wb s2 xb
            have hb := Ext.trans hS xb
            clear xb o2
            refine hK.out _ _ hb ?_
            replace hS := hb
            clear hK K hb
            try simp only [Act.put, List.setIfInBounds_toArray, List.set_cons_zero, List.set_cons_succ]
            refine wpAnyS_one (i := 15) rfl (by kernel_rfl) (by rfl) (fun K hK => ?_)
            go_simp
            refine (hash1_any G k v2 (0 :: x) _ s2 (by simp; omega) hk (hg4.below hS)).mono ?_; rintro e Wb ⟨rfl, xb⟩
            have hb := Ext.trans hS xb
            clear xb s2
            refine hK.out _ _ hb ?_
            replace hS := hb
            clear hK K hb
            try simp only [Act.put, List.setIfInBounds_toArray, List.set_cons_zero, List.set_cons_succ]
            refine wpAnyS_take (i := 16) (v := ?_) hS (some 77) rfl rfl (by kernel_rfl) (by kernel_rfl) (by kernel_rfl) (fun _ _ _ h => h) ?_ ?_
            rotate_left 1
            · (refine Or.inl ⟨by rfl, ?_⟩; intro w' hw'; have qf1 := fl4 _ hw'; have qf2 := qcell4 _ hw'; (try go_simp); (try rfl); done)
            try simp only [Act.put, List.setIfInBounds_toArray, List.set_cons_zero, List.set_cons_succ]
            refine wpAnyS_take (i := 17) (v := ?_) hS (some 19) rfl rfl (by kernel_rfl) (by kernel_rfl) (by kernel_rfl) (fun _ _ _ h => h) ?_ ?_
            rotate_left 1
            · (refine Or.inl ⟨by rfl, ?_⟩; intro w' hw'; have qf1 := fl4 _ hw'; have qf2 := qcell4 _ hw'; (try go_simp); (try rfl); done)
            try simp only [Act.put, List.setIfInBounds_toArray, List.set_cons_zero, List.set_cons_succ]
            refine wpAnyS_done (by kernel_rfl) ?_ _
            go_wp2_with fail
            go_meet
            exact ⟨rfl, hS⟩
        · refine wp_b0_at (some 70) rfl rfl ?_
          intro g2 Wb o2 xb
          (try replace o1 := o1.below xb)
          (try replace s1 := s1.below xb)
          have hb := Ext.trans hS xb
          clear xb
          refine hK.out _ _ hb ?_
          replace hS := hb
          clear hK K hb
          try simp only [Act.put, List.setIfInBounds_toArray, List.set_cons_zero, List.set_cons_succ]
          refine wpAnyS_one (i := 1) rfl (by kernel_rfl) (by rfl) (fun K hK => ?_)
          refine wp_b0_at (some 62) rfl rfl ?_
          intro g1 Wb o1 xb
          (try replace o2 := o2.below xb)
          have hb := Ext.trans hS xb
          clear xb
          refine hK.out _ _ hb ?_
          replace hS := hb
          clear hK K hb
          try simp only [Act.put, List.setIfInBounds_toArray, List.set_cons_zero, List.set_cons_succ]
          refine wpAnyS_one (i := 6) rfl (by kernel_rfl) (by rfl) (fun K hK => ?_)
          refine wp_ap1_at (some 67) _ _ rfl rfl rfl o1 rfl (hqj4.below hS) (by omega) ?_
          intro v1 Wb s1 xb
          (try replace o2 := o2.below xb)
          have hb := Ext.trans hS xb
          clear xb o1
          refine hK.out _ _ hb ?_
          replace hS := hb
          clear hK K hb
          try simp only [Act.put, List.setIfInBounds_toArray, List.set_cons_zero, List.set_cons_succ]
          refine wpAnyS_one (i := 7) rfl (by kernel_rfl) (by rfl) (fun K hK => ?_)
          go_simp
          refine (hash1_any G k v1 (0 :: y) _ s1 (by simp; omega) hk (hg4.below hS)).mono ?_; rintro e Wb ⟨rfl, xb⟩
          (try replace o2 := o2.below xb)
          have hb := Ext.trans hS xb
          clear xb s1
          refine hK.out _ _ hb ?_
          replace hS := hb
          clear hK K hb
          try simp only [Act.put, List.setIfInBounds_toArray, List.set_cons_zero, List.set_cons_succ]
          refine wpAnyS_one (i := 14) rfl (by kernel_rfl) (by rfl) (fun K hK => ?_)
          refine wp_ap1_at (some 75) _ _ rfl rfl rfl o2 rfl (hu4.below hS) (by omega) ?_
          intro v2 Wb s2 xb
          have hb := Ext.trans hS xb
          clear xb o2
          refine hK.out _ _ hb ?_
          replace hS := hb
          clear hK K hb
          try simp only [Act.put, List.setIfInBounds_toArray, List.set_cons_zero, List.set_cons_succ]
          refine wpAnyS_one (i := 15) rfl (by kernel_rfl) (by rfl) (fun K hK => ?_)
          go_simp
          refine (hash1_any G k v2 (0 :: x) _ s2 (by simp; omega) hk (hg4.below hS)).mono ?_; rintro e Wb ⟨rfl, xb⟩
          have hb := Ext.trans hS xb
          clear xb s2
          refine hK.out _ _ hb ?_
          replace hS := hb
          clear hK K hb
          try simp only [Act.put, List.setIfInBounds_toArray, List.set_cons_zero, List.set_cons_succ]
          refine wpAnyS_take (i := 16) (v := ?_) hS (some 77) rfl rfl (by kernel_rfl) (by kernel_rfl) (by kernel_rfl) (fun _ _ _ h => h) ?_ ?_
          rotate_left 1
          · (refine Or.inl ⟨by rfl, ?_⟩; intro w' hw'; have qf1 := fl4 _ hw'; have qf2 := qcell4 _ hw'; (try go_simp); (try rfl); done)
          try simp only [Act.put, List.setIfInBounds_toArray, List.set_cons_zero, List.set_cons_succ]
          refine wpAnyS_take (i := 17) (v := ?_) hS (some 19) rfl rfl (by kernel_rfl) (by kernel_rfl) (by kernel_rfl) (fun _ _ _ h => h) ?_ ?_
          rotate_left 1
          · (refine Or.inl ⟨by rfl, ?_⟩; intro w' hw'; have qf1 := fl4 _ hw'; have qf2 := qcell4 _ hw'; (try go_simp); (try rfl); done)
          try simp only [Act.put, List.setIfInBounds_toArray, List.set_cons_zero, List.set_cons_succ]
          refine wpAnyS_done (by kernel_rfl) ?_ _
          go_wp2_with fail
          go_meet
          exact ⟨rfl, hS⟩
      case rest =>
        obtain ⟨rfl, xc⟩ := hcut
        have hcur : Below w2.heap.size w2 wc := Ext.trans x4 xc
        have l1 := fun w' (h : Ext wc w') => ((p4.below xc).below h).c0.1
        have l2 := fun w' (h : Ext wc w') => ((p4.below xc).below h).c1.1
        have f1 := fun w' (h : Ext wc w') => may_any G k _ _ t1 t2 w' hk (by omega) (by omega) ((sA4.below xc).below h) ((sB4.below xc).below h) ((hg4.below xc).below h)
        rw [hml] at f1
        unfold hv at f1
        have q1 := fun w' (h : Ext wc w') => fl4 w' (Ext.trans xc h)
        have q2 := fun w' (h : Ext wc w') => qcell4 w' (Ext.trans xc h)
        have k1 := fun (w' : World) (h : Ext wc w') => conv_sl (P := Try.prog) (dst := 9) Try.underlying23 Try.underlying5 Try.underlying9 ((hqj4.below xc).below h)
        have k2 := fun (w' : World) (h : Ext wc w') => conv_sl (P := Try.prog) (dst := 9) Try.underlying23 Try.underlying5 Try.underlying9 ((hu4.below xc).below h)
        have hcase : sm = false ∨ (sm = true ∧ o.isSome = !decide (y = x)) := by
          cases sm with
          | false => exact Or.inl rfl
          | true => exact Or.inr ⟨rfl, hsm (beq_iff_eq.1 hsmm)⟩
        have e0 := Ext.refl wc
        clear hsm hsmm qe fl4 qcell4 p4 sA4 sB4 hg4 hqj4 hu4 x4
        generalize o.isSome = os at *
        have qs : (os != os) = false := by cases os <;> rfl
        clear hml
        rcases hcase with rfl | ⟨rfl, ho⟩
        · clear k1 k2 q1 q2
          go_wp2_with fail
          refine wp_region_E (by kernel_rfl) ?_
          replace hcur := below_via hcur (ext_drew _)
          replace e0 := Ext.trans e0 (ext_drew _)
          refine wpAnyE_take (i := 0) (v := ?_) (some 78) rfl rfl (by kernel_rfl) (by kernel_rfl) (by kernel_rfl) (fun _ _ _ h => h) ?_ ?_
          rotate_left 1
          · (refine Or.inl ⟨by rfl, ?_⟩; intro w' hw'; have hq := below_via hcur hw'; have hq_e0 := Ext.trans e0 hw'; have hz_l1 := l1 _ hq_e0; have hz_l2 := l2 _ hq_e0; (try go_simp); (try rfl); done)
          try simp only [Act.put, List.setIfInBounds_toArray, List.set_cons_zero, List.set_cons_succ]
          refine wpAnyE_take (i := 1) (v := ?_) (some 79) rfl rfl (by kernel_rfl) (by kernel_rfl) (by kernel_rfl) (fun _ _ _ h => h) ?_ ?_
          rotate_left 1
          · (refine Or.inl ⟨by rfl, ?_⟩; intro w' hw'; have hq := below_via hcur hw'; have hq_e0 := Ext.trans e0 hw'; have hz_l1 := l1 _ hq_e0; have hz_l2 := l2 _ hq_e0; (try go_simp); (try rfl); done)
          try simp only [Act.put, List.setIfInBounds_toArray, List.set_cons_zero, List.set_cons_succ]
          refine wpAnyE_take (i := 2) (v := ?_) (some 80) rfl rfl (by kernel_rfl) (by kernel_rfl) (by kernel_rfl) (fun _ _ _ h => h) ?_ ?_
          rotate_left 1
          · (refine Or.inl ⟨by rfl, ?_⟩; intro w' hw'; have hq := below_via hcur hw'; have hq_e0 := Ext.trans e0 hw'; have hz_l1 := l1 _ hq_e0; have hz_l2 := l2 _ hq_e0; (try go_simp); (try rfl); done)
          try simp only [Act.put, List.setIfInBounds_toArray, List.set_cons_zero, List.set_cons_succ]
          refine wpAnyE_one (i := 3) rfl (by kernel_rfl) (by rfl) (fun K hK => ?_)
          go_simp
          (with_reducible refine (f1 _ e0).mono ?_); rintro e z1 ⟨rfl, hb⟩
          refine hK.out _ _ hb ?_
          replace hcur := below_via hcur hb; clear hK K
          replace e0 := Ext.trans e0 hb
          try simp only [Act.put, List.setIfInBounds_toArray, List.set_cons_zero, List.set_cons_succ]
          refine wpAnyE_take (i := 4) (v := ?_) (some 82) rfl rfl (by kernel_rfl) (by kernel_rfl) (by kernel_rfl) (fun _ _ _ h => h) ?_ ?_
          rotate_left 1
          · (refine Or.inl ⟨by rfl, ?_⟩; intro w' hw'; have hq := below_via hcur hw'; have hq_e0 := Ext.trans e0 hw'; have hz_l1 := l1 _ hq_e0; have hz_l2 := l2 _ hq_e0; (try go_simp); (try rfl); done)
          try simp only [Act.put, List.setIfInBounds_toArray, List.set_cons_zero, List.set_cons_succ]
          refine wpAnyE_take (i := 5) (v := ?_) (some 83) rfl rfl (by kernel_rfl) (by kernel_rfl) (by kernel_rfl) (fun _ _ _ h => h) ?_ ?_
          rotate_left 1
          · (refine Or.inl ⟨by rfl, ?_⟩; intro w' hw'; have hq := below_via hcur hw'; have hq_e0 := Ext.trans e0 hw'; have hz_l1 := l1 _ hq_e0; have hz_l2 := l2 _ hq_e0; (try go_simp); (try rfl); done)
          try simp only [Act.put, List.setIfInBounds_toArray, List.set_cons_zero, List.set_cons_succ]
          refine wpAnyE_take (i := 6) (v := ?_) (some 84) rfl rfl (by kernel_rfl) (by kernel_rfl) (by kernel_rfl) (fun _ _ _ h => h) ?_ ?_
          rotate_left 1
          · (refine Or.inl ⟨by rfl, ?_⟩; intro w' hw'; have hq := below_via hcur hw'; have hq_e0 := Ext.trans e0 hw'; have hz_l1 := l1 _ hq_e0; have hz_l2 := l2 _ hq_e0; (try go_simp); (try rfl); done)
          try simp only [Act.put, List.setIfInBounds_toArray, List.set_cons_zero, List.set_cons_succ]
          refine wpAnyE_take (i := 7) (v := ?_) (some 85) rfl rfl (by kernel_rfl) (by kernel_rfl) (by kernel_rfl) (fun _ _ _ h => h) ?_ ?_
          rotate_left 1
          · (refine Or.inl ⟨by rfl, ?_⟩; intro w' hw'; have hq := below_via hcur hw'; have hq_e0 := Ext.trans e0 hw'; have hz_l1 := l1 _ hq_e0; have hz_l2 := l2 _ hq_e0; (try go_simp); (try rfl); done)
          try simp only [Act.put, List.setIfInBounds_toArray, List.set_cons_zero, List.set_cons_succ]
          refine wpAnyE_take (i := 8) (v := undef) (some 86) rfl rfl (by kernel_rfl) (by kernel_rfl) (by kernel_rfl) (fun _ _ _ h => h) (Or.inr ⟨by rfl, rfl⟩) ?_
          try simp only [Act.put, List.setIfInBounds_toArray, List.set_cons_zero, List.set_cons_succ]
          refine wpAnyE_take (i := 9) (v := undef) (some 87) rfl rfl (by kernel_rfl) (by kernel_rfl) (by kernel_rfl) (fun _ _ _ h => h) (Or.inr ⟨by rfl, rfl⟩) ?_
          try simp only [Act.put, List.setIfInBounds_toArray, List.set_cons_zero, List.set_cons_succ]
          refine wpAnyE_take (i := 10) (v := undef) (some 88) rfl rfl (by kernel_rfl) (by kernel_rfl) (by kernel_rfl) (fun _ _ _ h => h) (Or.inr ⟨by rfl, rfl⟩) ?_
          try simp only [Act.put, List.setIfInBounds_toArray, List.set_cons_zero, List.set_cons_succ]
          refine wpAnyE_take (i := 11) (v := undef) (some 89) rfl rfl (by kernel_rfl) (by kernel_rfl) (by kernel_rfl) (fun _ _ _ h => h) (Or.inr ⟨by rfl, rfl⟩) ?_
          try simp only [Act.put, List.setIfInBounds_toArray, List.set_cons_zero, List.set_cons_succ]
          refine wpAnyE_take (i := 12) (v := undef) (some 90) rfl rfl (by kernel_rfl) (by kernel_rfl) (by kernel_rfl) (fun _ _ _ h => h) (Or.inr ⟨by rfl, rfl⟩) ?_
          try simp only [Act.put, List.setIfInBounds_toArray, List.set_cons_zero, List.set_cons_succ]
          refine wpAnyE_take (i := 13) (v := undef) (some 91) rfl rfl (by kernel_rfl) (by kernel_rfl) (by kernel_rfl) (fun _ _ _ h => h) (Or.inr ⟨by rfl, rfl⟩) ?_
          try simp only [Act.put, List.setIfInBounds_toArray, List.set_cons_zero, List.set_cons_succ]
          refine wpAnyE_take (i := 14) (v := undef) (some 92) rfl rfl (by kernel_rfl) (by kernel_rfl) (by kernel_rfl) (fun _ _ _ h => h) (Or.inr ⟨by rfl, rfl⟩) ?_
          try simp only [Act.put, List.setIfInBounds_toArray, List.set_cons_zero, List.set_cons_succ]
          refine wpAnyE_take (i := 15) (v := undef) (some 93) rfl rfl (by kernel_rfl) (by kernel_rfl) (by kernel_rfl) (fun _ _ _ h => h) (Or.inr ⟨by rfl, rfl⟩) ?_
          try simp only [Act.put, List.setIfInBounds_toArray, List.set_cons_zero, List.set_cons_succ]
          refine wpAnyE_take (i := 16) (v := undef) (some 94) rfl rfl (by kernel_rfl) (by kernel_rfl) (by kernel_rfl) (fun _ _ _ h => h) (Or.inr ⟨by rfl, rfl⟩) ?_
          try simp only [Act.put, List.setIfInBounds_toArray, List.set_cons_zero, List.set_cons_succ]
          refine wpAnyE_take (i := 17) (v := undef) (some 95) rfl rfl (by kernel_rfl) (by kernel_rfl) (by kernel_rfl) (fun _ _ _ h => h) (Or.inr ⟨by rfl, rfl⟩) ?_
          try simp only [Act.put, List.setIfInBounds_toArray, List.set_cons_zero, List.set_cons_succ]
          refine wpAnyE_take (i := 18) (v := undef) (some 96) rfl rfl (by kernel_rfl) (by kernel_rfl) (by kernel_rfl) (fun _ _ _ h => h) (Or.inr ⟨by rfl, rfl⟩) ?_
          try simp only [Act.put, List.setIfInBounds_toArray, List.set_cons_zero, List.set_cons_succ]
          refine wpAnyE_take (i := 19) (v := undef) (some 97) rfl rfl (by kernel_rfl) (by kernel_rfl) (by kernel_rfl) (fun _ _ _ h => h) (Or.inr ⟨by rfl, rfl⟩) ?_
          try simp only [Act.put, List.setIfInBounds_toArray, List.set_cons_zero, List.set_cons_succ]
          refine wpAnyE_take (i := 20) (v := undef) (some 98) rfl rfl (by kernel_rfl) (by kernel_rfl) (by kernel_rfl) (fun _ _ _ h => h) (Or.inr ⟨by rfl, rfl⟩) ?_
          try simp only [Act.put, List.setIfInBounds_toArray, List.set_cons_zero, List.set_cons_succ]
          refine wpAnyE_take (i := 21) (v := ?_) (some 99) rfl rfl (by kernel_rfl) (by kernel_rfl) (by kernel_rfl) (fun _ _ _ h => h) ?_ ?_
          rotate_left 1
          · (refine Or.inl ⟨by rfl, ?_⟩; intro w' hw'; have hq := below_via hcur hw'; have hq_e0 := Ext.trans e0 hw'; have hz_l1 := l1 _ hq_e0; have hz_l2 := l2 _ hq_e0; (try go_simp); (try rfl); done)
          try simp only [Act.put, List.setIfInBounds_toArray, List.set_cons_zero, List.set_cons_succ]
          refine wpAnyE_take (i := 22) (v := ?_) (some 100) rfl rfl (by kernel_rfl) (by kernel_rfl) (by kernel_rfl) (fun _ _ _ h => h) ?_ ?_
          rotate_left 1
          · (refine Or.inl ⟨by rfl, ?_⟩; intro w' hw'; have hq := below_via hcur hw'; have hq_e0 := Ext.trans e0 hw'; have hz_l1 := l1 _ hq_e0; have hz_l2 := l2 _ hq_e0; (try go_simp); (try rfl); done)
          try simp only [Act.put, List.setIfInBounds_toArray, List.set_cons_zero, List.set_cons_succ]
          refine wpAnyE_done (by kernel_rfl) ?_ _
          have xe : Ext w2 _ := hcur
          go_wp2_with fail
          go_roundw
          case rel => first | exact ⟨j + 1, by omega, by go_num, xe⟩ | ((repeat apply Exists.intro); exact ⟨⟨j + 1, by omega, by go_num, xe⟩, rfl⟩)
          case measure => simp [intOf]; omega
        · by_cases hyx : y = x
          · have hd : decide (y = x) = true := decide_eq_true hyx
            have hxb : (y == x) = decide (y = x) := by rw [Bool.eq_iff_iff]; simp
            have hxn : (y != x) = !decide (y = x) := by rw [bne, hxb]
            rw [hd] at hxb hxn ho
            simp only [Bool.not_true, Bool.not_false] at hxn ho
            subst ho
            clear hd hyx qs
            go_wp2_with fail
            refine wp_region_E (by kernel_rfl) ?_
            replace hcur := below_via hcur (ext_drew _)
            replace e0 := Ext.trans e0 (ext_drew _)
            refine wpAnyE_take (i := 0) (v := ?_) (some 78) rfl rfl (by kernel_rfl) (by kernel_rfl) (by kernel_rfl) (fun _ _ _ h => h) ?_ ?_
            rotate_left 1
            · (refine Or.inl ⟨by rfl, ?_⟩; intro w' hw'; have hq := below_via hcur hw'; have hq_e0 := Ext.trans e0 hw'; have hz_l1 := l1 _ hq_e0; have hz_l2 := l2 _ hq_e0; have hz_q1 := q1 _ hq_e0; have hz_q2 := q2 _ hq_e0; have hz_k1 := k1 _ hq_e0; have hz_k2 := k2 _ hq_e0; (try go_simp); (try rfl); done)
            try simp only [Act.put, List.setIfInBounds_toArray, List.set_cons_zero, List.set_cons_succ]
            refine wpAnyE_take (i := 1) (v := ?_) (some 79) rfl rfl (by kernel_rfl) (by kernel_rfl) (by kernel_rfl) (fun _ _ _ h => h) ?_ ?_
            rotate_left 1
            · (refine Or.inl ⟨by rfl, ?_⟩; intro w' hw'; have hq := below_via hcur hw'; have hq_e0 := Ext.trans e0 hw'; have hz_l1 := l1 _ hq_e0; have hz_l2 := l2 _ hq_e0; have hz_q1 := q1 _ hq_e0; have hz_q2 := q2 _ hq_e0; have hz_k1 := k1 _ hq_e0; have hz_k2 := k2 _ hq_e0; (try go_simp); (try rfl); done)
            try simp only [Act.put, List.setIfInBounds_toArray, List.set_cons_zero, List.set_cons_succ]
            refine wpAnyE_take (i := 2) (v := ?_) (some 80) rfl rfl (by kernel_rfl) (by kernel_rfl) (by kernel_rfl) (fun _ _ _ h => h) ?_ ?_
            rotate_left 1
            · (refine Or.inl ⟨by rfl, ?_⟩; intro w' hw'; have hq := below_via hcur hw'; have hq_e0 := Ext.trans e0 hw'; have hz_l1 := l1 _ hq_e0; have hz_l2 := l2 _ hq_e0; have hz_q1 := q1 _ hq_e0; have hz_q2 := q2 _ hq_e0; have hz_k1 := k1 _ hq_e0; have hz_k2 := k2 _ hq_e0; (try go_simp); (try rfl); done)
            try simp only [Act.put, List.setIfInBounds_toArray, List.set_cons_zero, List.set_cons_succ]
            refine wpAnyE_one (i := 3) rfl (by kernel_rfl) (by rfl) (fun K hK => ?_)
            go_simp
            (with_reducible refine (f1 _ e0).mono ?_); rintro e z1 ⟨rfl, hb⟩
            refine hK.out _ _ hb ?_
            replace hcur := below_via hcur hb; clear hK K
            replace e0 := Ext.trans e0 hb
            try simp only [Act.put, List.setIfInBounds_toArray, List.set_cons_zero, List.set_cons_succ]
            refine wpAnyE_take (i := 4) (v := ?_) (some 82) rfl rfl (by kernel_rfl) (by kernel_rfl) (by kernel_rfl) (fun _ _ _ h => h) ?_ ?_
            rotate_left 1
            · (refine Or.inl ⟨by rfl, ?_⟩; intro w' hw'; have hq := below_via hcur hw'; have hq_e0 := Ext.trans e0 hw'; have hz_l1 := l1 _ hq_e0; have hz_l2 := l2 _ hq_e0; have hz_q1 := q1 _ hq_e0; have hz_q2 := q2 _ hq_e0; have hz_k1 := k1 _ hq_e0; have hz_k2 := k2 _ hq_e0; (try go_simp); (try rfl); done)
            try simp only [Act.put, List.setIfInBounds_toArray, List.set_cons_zero, List.set_cons_succ]
            refine wpAnyE_take (i := 5) (v := ?_) (some 83) rfl rfl (by kernel_rfl) (by kernel_rfl) (by kernel_rfl) (fun _ _ _ h => h) ?_ ?_
            rotate_left 1
            · (refine Or.inl ⟨by rfl, ?_⟩; intro w' hw'; have hq := below_via hcur hw'; have hq_e0 := Ext.trans e0 hw'; have hz_l1 := l1 _ hq_e0; have hz_l2 := l2 _ hq_e0; have hz_q1 := q1 _ hq_e0; have hz_q2 := q2 _ hq_e0; have hz_k1 := k1 _ hq_e0; have hz_k2 := k2 _ hq_e0; (try go_simp); (try rfl); done)
            try simp only [Act.put, List.setIfInBounds_toArray, List.set_cons_zero, List.set_cons_succ]
            refine wpAnyE_take (i := 6) (v := ?_) (some 84) rfl rfl (by kernel_rfl) (by kernel_rfl) (by kernel_rfl) (fun _ _ _ h => h) ?_ ?_
            rotate_left 1
            · (refine Or.inl ⟨by rfl, ?_⟩; intro w' hw'; have hq := below_via hcur hw'; have hq_e0 := Ext.trans e0 hw'; have hz_l1 := l1 _ hq_e0; have hz_l2 := l2 _ hq_e0; have hz_q1 := q1 _ hq_e0; have hz_q2 := q2 _ hq_e0; have hz_k1 := k1 _ hq_e0; have hz_k2 := k2 _ hq_e0; (try go_simp); (try rfl); done)
            try simp only [Act.put, List.setIfInBounds_toArray, List.set_cons_zero, List.set_cons_succ]
            refine wpAnyE_take (i := 7) (v := ?_) (some 85) rfl rfl (by kernel_rfl) (by kernel_rfl) (by kernel_rfl) (fun _ _ _ h => h) ?_ ?_
            rotate_left 1
            · (refine Or.inl ⟨by rfl, ?_⟩; intro w' hw'; have hq := below_via hcur hw'; have hq_e0 := Ext.trans e0 hw'; have hz_l1 := l1 _ hq_e0; have hz_l2 := l2 _ hq_e0; have hz_q1 := q1 _ hq_e0; have hz_q2 := q2 _ hq_e0; have hz_k1 := k1 _ hq_e0; have hz_k2 := k2 _ hq_e0; (try go_simp); (try rfl); done)
            try simp only [Act.put, List.setIfInBounds_toArray, List.set_cons_zero, List.set_cons_succ]
            refine wpAnyE_take (i := 8) (v := ?_) (some 86) rfl rfl (by kernel_rfl) (by kernel_rfl) (by kernel_rfl) (fun _ _ _ h => h) ?_ ?_
            rotate_left 1
            · (refine Or.inl ⟨by rfl, ?_⟩; intro w' hw'; have hq := below_via hcur hw'; have hq_e0 := Ext.trans e0 hw'; have hz_l1 := l1 _ hq_e0; have hz_l2 := l2 _ hq_e0; have hz_q1 := q1 _ hq_e0; have hz_q2 := q2 _ hq_e0; have hz_k1 := k1 _ hq_e0; have hz_k2 := k2 _ hq_e0; (try go_simp); (try rfl); done)
            try simp only [Act.put, List.setIfInBounds_toArray, List.set_cons_zero, List.set_cons_succ]
            refine wpAnyE_take (i := 9) (v := ?_) (some 87) rfl rfl (by kernel_rfl) (by kernel_rfl) (by kernel_rfl) (fun _ _ _ h => h) ?_ ?_
            rotate_left 1
            · (refine Or.inl ⟨by rfl, ?_⟩; intro w' hw'; have hq := below_via hcur hw'; have hq_e0 := Ext.trans e0 hw'; have hz_l1 := l1 _ hq_e0; have hz_l2 := l2 _ hq_e0; have hz_q1 := q1 _ hq_e0; have hz_q2 := q2 _ hq_e0; have hz_k1 := k1 _ hq_e0; have hz_k2 := k2 _ hq_e0; (try go_simp); (try rfl); done)
            try simp only [Act.put, List.setIfInBounds_toArray, List.set_cons_zero, List.set_cons_succ]
            refine wpAnyE_take (i := 10) (v := ?_) (some 88) rfl rfl (by kernel_rfl) (by kernel_rfl) (by kernel_rfl) (fun _ _ _ h => h) ?_ ?_
            rotate_left 1
            · (refine Or.inl ⟨by rfl, ?_⟩; intro w' hw'; have hq := below_via hcur hw'; have hq_e0 := Ext.trans e0 hw'; have hz_l1 := l1 _ hq_e0; have hz_l2 := l2 _ hq_e0; have hz_q1 := q1 _ hq_e0; have hz_q2 := q2 _ hq_e0; have hz_k1 := k1 _ hq_e0; have hz_k2 := k2 _ hq_e0; (try go_simp); (try rfl); done)
            try simp only [Act.put, List.setIfInBounds_toArray, List.set_cons_zero, List.set_cons_succ]
            refine wpAnyE_take (i := 11) (v := ?_) (some 89) rfl rfl (by kernel_rfl) (by kernel_rfl) (by kernel_rfl) (fun _ _ _ h => h) ?_ ?_
            rotate_left 1
            · (refine Or.inl ⟨by rfl, ?_⟩; intro w' hw'; have hq := below_via hcur hw'; have hq_e0 := Ext.trans e0 hw'; have hz_l1 := l1 _ hq_e0; have hz_l2 := l2 _ hq_e0; have hz_q1 := q1 _ hq_e0; have hz_q2 := q2 _ hq_e0; have hz_k1 := k1 _ hq_e0; have hz_k2 := k2 _ hq_e0; (try go_simp); (try rfl); done)
            try simp only [Act.put, List.setIfInBounds_toArray, List.set_cons_zero, List.set_cons_succ]
            refine wpAnyE_take (i := 12) (v := ?_) (some 90) rfl rfl (by kernel_rfl) (by kernel_rfl) (by kernel_rfl) (fun _ _ _ h => h) ?_ ?_
            rotate_left 1
            · (refine Or.inl ⟨by rfl, ?_⟩; intro w' hw'; have hq := below_via hcur hw'; have hq_e0 := Ext.trans e0 hw'; have hz_l1 := l1 _ hq_e0; have hz_l2 := l2 _ hq_e0; have hz_q1 := q1 _ hq_e0; have hz_q2 := q2 _ hq_e0; have hz_k1 := k1 _ hq_e0; have hz_k2 := k2 _ hq_e0; (try go_simp); (try rfl); done)
            try simp only [Act.put, List.setIfInBounds_toArray, List.set_cons_zero, List.set_cons_succ]
            refine wpAnyE_take (i := 13) (v := ?_) (some 91) rfl rfl (by kernel_rfl) (by kernel_rfl) (by kernel_rfl) (fun _ _ _ h => h) ?_ ?_
            rotate_left 1
            · (refine Or.inl ⟨by rfl, ?_⟩; intro w' hw'; have hq := below_via hcur hw'; have hq_e0 := Ext.trans e0 hw'; have hz_l1 := l1 _ hq_e0; have hz_l2 := l2 _ hq_e0; have hz_q1 := q1 _ hq_e0; have hz_q2 := q2 _ hq_e0; have hz_k1 := k1 _ hq_e0; have hz_k2 := k2 _ hq_e0; (try go_simp); (try rfl); done)
            try simp only [Act.put, List.setIfInBounds_toArray, List.set_cons_zero, List.set_cons_succ]
            refine wpAnyE_take (i := 14) (v := ?_) (some 92) rfl rfl (by kernel_rfl) (by kernel_rfl) (by kernel_rfl) (fun _ _ _ h => h) ?_ ?_
            rotate_left 1
            · (refine Or.inl ⟨by rfl, ?_⟩; intro w' hw'; have hq := below_via hcur hw'; have hq_e0 := Ext.trans e0 hw'; have hz_l1 := l1 _ hq_e0; have hz_l2 := l2 _ hq_e0; have hz_q1 := q1 _ hq_e0; have hz_q2 := q2 _ hq_e0; have hz_k1 := k1 _ hq_e0; have hz_k2 := k2 _ hq_e0; (try go_simp); (try rfl); done)
            try simp only [Act.put, List.setIfInBounds_toArray, List.set_cons_zero, List.set_cons_succ]
            refine wpAnyE_take (i := 15) (v := ?_) (some 93) rfl rfl (by kernel_rfl) (by kernel_rfl) (by kernel_rfl) (fun _ _ _ h => h) ?_ ?_
            rotate_left 1
            · (refine Or.inl ⟨by rfl, ?_⟩; intro w' hw'; have hq := below_via hcur hw'; have hq_e0 := Ext.trans e0 hw'; have hz_l1 := l1 _ hq_e0; have hz_l2 := l2 _ hq_e0; have hz_q1 := q1 _ hq_e0; have hz_q2 := q2 _ hq_e0; have hz_k1 := k1 _ hq_e0; have hz_k2 := k2 _ hq_e0; (try go_simp); (try rfl); done)
            try simp only [Act.put, List.setIfInBounds_toArray, List.set_cons_zero, List.set_cons_succ]
            refine wpAnyE_take (i := 16) (v := ?_) (some 94) rfl rfl (by kernel_rfl) (by kernel_rfl) (by kernel_rfl) (fun _ _ _ h => h) ?_ ?_
            rotate_left 1
            · (refine Or.inl ⟨by rfl, ?_⟩; intro w' hw'; have hq := below_via hcur hw'; have hq_e0 := Ext.trans e0 hw'; have hz_l1 := l1 _ hq_e0; have hz_l2 := l2 _ hq_e0; have hz_q1 := q1 _ hq_e0; have hz_q2 := q2 _ hq_e0; have hz_k1 := k1 _ hq_e0; have hz_k2 := k2 _ hq_e0; (try go_simp); (try rfl); done)
            try simp only [Act.put, List.setIfInBounds_toArray, List.set_cons_zero, List.set_cons_succ]
            refine wpAnyE_take (i := 17) (v := ?_) (some 95) rfl rfl (by kernel_rfl) (by kernel_rfl) (by kernel_rfl) (fun _ _ _ h => h) ?_ ?_
            rotate_left 1
            · (refine Or.inl ⟨by rfl, ?_⟩; intro w' hw'; have hq := below_via hcur hw'; have hq_e0 := Ext.trans e0 hw'; have hz_l1 := l1 _ hq_e0; have hz_l2 := l2 _ hq_e0; have hz_q1 := q1 _ hq_e0; have hz_q2 := q2 _ hq_e0; have hz_k1 := k1 _ hq_e0; have hz_k2 := k2 _ hq_e0; (try go_simp); (try rfl); done)
            try simp only [Act.put, List.setIfInBounds_toArray, List.set_cons_zero, List.set_cons_succ]
            refine wpAnyE_take (i := 18) (v := ?_) (some 96) rfl rfl (by kernel_rfl) (by kernel_rfl) (by kernel_rfl) (fun _ _ _ h => h) ?_ ?_
            rotate_left 1
            · (refine Or.inl ⟨by rfl, ?_⟩; intro w' hw'; have hq := below_via hcur hw'; have hq_e0 := Ext.trans e0 hw'; have hz_l1 := l1 _ hq_e0; have hz_l2 := l2 _ hq_e0; have hz_q1 := q1 _ hq_e0; have hz_q2 := q2 _ hq_e0; have hz_k1 := k1 _ hq_e0; have hz_k2 := k2 _ hq_e0; (try go_simp); (try rfl); done)
            try simp only [Act.put, List.setIfInBounds_toArray, List.set_cons_zero, List.set_cons_succ]
            refine wpAnyE_take (i := 19) (v := ?_) (some 97) rfl rfl (by kernel_rfl) (by kernel_rfl) (by kernel_rfl) (fun _ _ _ h => h) ?_ ?_
            rotate_left 1
            · (refine Or.inl ⟨by rfl, ?_⟩; intro w' hw'; have hq := below_via hcur hw'; have hq_e0 := Ext.trans e0 hw'; have hz_l1 := l1 _ hq_e0; have hz_l2 := l2 _ hq_e0; have hz_q1 := q1 _ hq_e0; have hz_q2 := q2 _ hq_e0; have hz_k1 := k1 _ hq_e0; have hz_k2 := k2 _ hq_e0; (try go_simp); (try rfl); done)
            try simp only [Act.put, List.setIfInBounds_toArray, List.set_cons_zero, List.set_cons_succ]
            refine wpAnyE_take (i := 20) (v := ?_) (some 98) rfl rfl (by kernel_rfl) (by kernel_rfl) (by kernel_rfl) (fun _ _ _ h => h) ?_ ?_
            rotate_left 1
            · (refine Or.inl ⟨by rfl, ?_⟩; intro w' hw'; have hq := below_via hcur hw'; have hq_e0 := Ext.trans e0 hw'; have hz_l1 := l1 _ hq_e0; have hz_l2 := l2 _ hq_e0; have hz_q1 := q1 _ hq_e0; have hz_q2 := q2 _ hq_e0; have hz_k1 := k1 _ hq_e0; have hz_k2 := k2 _ hq_e0; (try go_simp); (try rfl); done)
            try simp only [Act.put, List.setIfInBounds_toArray, List.set_cons_zero, List.set_cons_succ]
            refine wpAnyE_take (i := 21) (v := ?_) (some 99) rfl rfl (by kernel_rfl) (by kernel_rfl) (by kernel_rfl) (fun _ _ _ h => h) ?_ ?_
            rotate_left 1
            · (refine Or.inl ⟨by rfl, ?_⟩; intro w' hw'; have hq := below_via hcur hw'; have hq_e0 := Ext.trans e0 hw'; have hz_l1 := l1 _ hq_e0; have hz_l2 := l2 _ hq_e0; have hz_q1 := q1 _ hq_e0; have hz_q2 := q2 _ hq_e0; have hz_k1 := k1 _ hq_e0; have hz_k2 := k2 _ hq_e0; (try go_simp); (try rfl); done)
            try simp only [Act.put, List.setIfInBounds_toArray, List.set_cons_zero, List.set_cons_succ]
            refine wpAnyE_take (i := 22) (v := ?_) (some 100) rfl rfl (by kernel_rfl) (by kernel_rfl) (by kernel_rfl) (fun _ _ _ h => h) ?_ ?_
            rotate_left 1
            · (refine Or.inl ⟨by rfl, ?_⟩; intro w' hw'; have hq := below_via hcur hw'; have hq_e0 := Ext.trans e0 hw'; have hz_l1 := l1 _ hq_e0; have hz_l2 := l2 _ hq_e0; have hz_q1 := q1 _ hq_e0; have hz_q2 := q2 _ hq_e0; have hz_k1 := k1 _ hq_e0; have hz_k2 := k2 _ hq_e0; (try go_simp); (try rfl); done)
            try simp only [Act.put, List.setIfInBounds_toArray, List.set_cons_zero, List.set_cons_succ]
            refine wpAnyE_done (by kernel_rfl) ?_ _
            have xe : Ext w2 _ := hcur
            go_wp2_with fail
            go_roundw
            case rel => first | exact ⟨j + 1, by omega, by go_num, xe⟩ | ((repeat apply Exists.intro); exact ⟨⟨j + 1, by omega, by go_num, xe⟩, rfl⟩)
            case measure => simp [intOf]; omega
          · have hd : decide (y = x) = false := decide_eq_false hyx
            have hxb : (y == x) = decide (y = x) := by rw [Bool.eq_iff_iff]; simp
            have hxn : (y != x) = !decide (y = x) := by rw [bne, hxb]
            rw [hd] at hxb hxn ho
            simp only [Bool.not_true, Bool.not_false] at hxn ho
            subst ho
            clear hd hyx qs
            go_wp2_with fail
            refine wp_region_E (by kernel_rfl) ?_
            replace hcur := below_via hcur (ext_drew _)
            replace e0 := Ext.trans e0 (ext_drew _)
            refine wpAnyE_take (i := 0) (v := ?_) (some 78) rfl rfl (by kernel_rfl) (by kernel_rfl) (by kernel_rfl) (fun _ _ _ h => h) ?_ ?_
            rotate_left 1
            · (refine Or.inl ⟨by rfl, ?_⟩; intro w' hw'; have hq := below_via hcur hw'; have hq_e0 := Ext.trans e0 hw'; have hz_l1 := l1 _ hq_e0; have hz_l2 := l2 _ hq_e0; have hz_q1 := q1 _ hq_e0; have hz_q2 := q2 _ hq_e0; have hz_k1 := k1 _ hq_e0; have hz_k2 := k2 _ hq_e0; (try go_simp); (try rfl); done)
            try simp only [Act.put, List.setIfInBounds_toArray, List.set_cons_zero, List.set_cons_succ]
            refine wpAnyE_take (i := 1) (v := ?_) (some 79) rfl rfl (by kernel_rfl) (by kernel_rfl) (by kernel_rfl) (fun _ _ _ h => h) ?_ ?_
            rotate_left 1
            · (refine Or.inl ⟨by rfl, ?_⟩; intro w' hw'; have hq := below_via hcur hw'; have hq_e0 := Ext.trans e0 hw'; have hz_l1 := l1 _ hq_e0; have hz_l2 := l2 _ hq_e0; have hz_q1 := q1 _ hq_e0; have hz_q2 := q2 _ hq_e0; have hz_k1 := k1 _ hq_e0; have hz_k2 := k2 _ hq_e0; (try go_simp); (try rfl); done)
            try simp only [Act.put, List.setIfInBounds_toArray, List.set_cons_zero, List.set_cons_succ]
            refine wpAnyE_take (i := 2) (v := ?_) (some 80) rfl rfl (by kernel_rfl) (by kernel_rfl) (by kernel_rfl) (fun _ _ _ h => h) ?_ ?_
            rotate_left 1
            · (refine Or.inl ⟨by rfl, ?_⟩; intro w' hw'; have hq := below_via hcur hw'; have hq_e0 := Ext.trans e0 hw'; have hz_l1 := l1 _ hq_e0; have hz_l2 := l2 _ hq_e0; have hz_q1 := q1 _ hq_e0; have hz_q2 := q2 _ hq_e0; have hz_k1 := k1 _ hq_e0; have hz_k2 := k2 _ hq_e0; (try go_simp); (try rfl); done)
            try simp only [Act.put, List.setIfInBounds_toArray, List.set_cons_zero, List.set_cons_succ]
            refine wpAnyE_one (i := 3) rfl (by kernel_rfl) (by rfl) (fun K hK => ?_)
            go_simp
            (with_reducible refine (f1 _ e0).mono ?_); rintro e z1 ⟨rfl, hb⟩
            refine hK.out _ _ hb ?_
            replace hcur := below_via hcur hb; clear hK K
            replace e0 := Ext.trans e0 hb
            try simp only [Act.put, List.setIfInBounds_toArray, List.set_cons_zero, List.set_cons_succ]
            refine wpAnyE_take (i := 4) (v := ?_) (some 82) rfl rfl (by kernel_rfl) (by kernel_rfl) (by kernel_rfl) (fun _ _ _ h => h) ?_ ?_
            rotate_left 1
            · (refine Or.inl ⟨by rfl, ?_⟩; intro w' hw'; have hq := below_via hcur hw'; have hq_e0 := Ext.trans e0 hw'; have hz_l1 := l1 _ hq_e0; have hz_l2 := l2 _ hq_e0; have hz_q1 := q1 _ hq_e0; have hz_q2 := q2 _ hq_e0; have hz_k1 := k1 _ hq_e0; have hz_k2 := k2 _ hq_e0; (try go_simp); (try rfl); done)
            try simp only [Act.put, List.setIfInBounds_toArray, List.set_cons_zero, List.set_cons_succ]
            refine wpAnyE_take (i := 5) (v := ?_) (some 83) rfl rfl (by kernel_rfl) (by kernel_rfl) (by kernel_rfl) (fun _ _ _ h => h) ?_ ?_
            rotate_left 1
            · (refine Or.inl ⟨by rfl, ?_⟩; intro w' hw'; have hq := below_via hcur hw'; have hq_e0 := Ext.trans e0 hw'; have hz_l1 := l1 _ hq_e0; have hz_l2 := l2 _ hq_e0; have hz_q1 := q1 _ hq_e0; have hz_q2 := q2 _ hq_e0; have hz_k1 := k1 _ hq_e0; have hz_k2 := k2 _ hq_e0; (try go_simp); (try rfl); done)
            try simp only [Act.put, List.setIfInBounds_toArray, List.set_cons_zero, List.set_cons_succ]
            refine wpAnyE_take (i := 6) (v := ?_) (some 84) rfl rfl (by kernel_rfl) (by kernel_rfl) (by kernel_rfl) (fun _ _ _ h => h) ?_ ?_
            rotate_left 1
            · (refine Or.inl ⟨by rfl, ?_⟩; intro w' hw'; have hq := below_via hcur hw'; have hq_e0 := Ext.trans e0 hw'; have hz_l1 := l1 _ hq_e0; have hz_l2 := l2 _ hq_e0; have hz_q1 := q1 _ hq_e0; have hz_q2 := q2 _ hq_e0; have hz_k1 := k1 _ hq_e0; have hz_k2 := k2 _ hq_e0; (try go_simp); (try rfl); done)
            try simp only [Act.put, List.setIfInBounds_toArray, List.set_cons_zero, List.set_cons_succ]
            refine wpAnyE_take (i := 7) (v := ?_) (some 85) rfl rfl (by kernel_rfl) (by kernel_rfl) (by kernel_rfl) (fun _ _ _ h => h) ?_ ?_
            rotate_left 1
            · (refine Or.inl ⟨by rfl, ?_⟩; intro w' hw'; have hq := below_via hcur hw'; have hq_e0 := Ext.trans e0 hw'; have hz_l1 := l1 _ hq_e0; have hz_l2 := l2 _ hq_e0; have hz_q1 := q1 _ hq_e0; have hz_q2 := q2 _ hq_e0; have hz_k1 := k1 _ hq_e0; have hz_k2 := k2 _ hq_e0; (try go_simp); (try rfl); done)
            try simp only [Act.put, List.setIfInBounds_toArray, List.set_cons_zero, List.set_cons_succ]
            refine wpAnyE_take (i := 8) (v := ?_) (some 86) rfl rfl (by kernel_rfl) (by kernel_rfl) (by kernel_rfl) (fun _ _ _ h => h) ?_ ?_
            rotate_left 1
            · (refine Or.inl ⟨by rfl, ?_⟩; intro w' hw'; have hq := below_via hcur hw'; have hq_e0 := Ext.trans e0 hw'; have hz_l1 := l1 _ hq_e0; have hz_l2 := l2 _ hq_e0; have hz_q1 := q1 _ hq_e0; have hz_q2 := q2 _ hq_e0; have hz_k1 := k1 _ hq_e0; have hz_k2 := k2 _ hq_e0; (try go_simp); (try rfl); done)
            try simp only [Act.put, List.setIfInBounds_toArray, List.set_cons_zero, List.set_cons_succ]
            refine wpAnyE_take (i := 9) (v := ?_) (some 87) rfl rfl (by kernel_rfl) (by kernel_rfl) (by kernel_rfl) (fun _ _ _ h => h) ?_ ?_
            rotate_left 1
            · (refine Or.inl ⟨by rfl, ?_⟩; intro w' hw'; have hq := below_via hcur hw'; have hq_e0 := Ext.trans e0 hw'; have hz_l1 := l1 _ hq_e0; have hz_l2 := l2 _ hq_e0; have hz_q1 := q1 _ hq_e0; have hz_q2 := q2 _ hq_e0; have hz_k1 := k1 _ hq_e0; have hz_k2 := k2 _ hq_e0; (try go_simp); (try rfl); done)
            try simp only [Act.put, List.setIfInBounds_toArray, List.set_cons_zero, List.set_cons_succ]
            refine wpAnyE_take (i := 10) (v := ?_) (some 88) rfl rfl (by kernel_rfl) (by kernel_rfl) (by kernel_rfl) (fun _ _ _ h => h) ?_ ?_
            rotate_left 1
            · (refine Or.inl ⟨by rfl, ?_⟩; intro w' hw'; have hq := below_via hcur hw'; have hq_e0 := Ext.trans e0 hw'; have hz_l1 := l1 _ hq_e0; have hz_l2 := l2 _ hq_e0; have hz_q1 := q1 _ hq_e0; have hz_q2 := q2 _ hq_e0; have hz_k1 := k1 _ hq_e0; have hz_k2 := k2 _ hq_e0; (try go_simp); (try rfl); done)
            try simp only [Act.put, List.setIfInBounds_toArray, List.set_cons_zero, List.set_cons_succ]
            refine wpAnyE_take (i := 11) (v := ?_) (some 89) rfl rfl (by kernel_rfl) (by kernel_rfl) (by kernel_rfl) (fun _ _ _ h => h) ?_ ?_
            rotate_left 1
            · (refine Or.inl ⟨by rfl, ?_⟩; intro w' hw'; have hq := below_via hcur hw'; have hq_e0 := Ext.trans e0 hw'; have hz_l1 := l1 _ hq_e0; have hz_l2 := l2 _ hq_e0; have hz_q1 := q1 _ hq_e0; have hz_q2 := q2 _ hq_e0; have hz_k1 := k1 _ hq_e0; have hz_k2 := k2 _ hq_e0; (try go_simp); (try rfl); done)
            try simp only [Act.put, List.setIfInBounds_toArray, List.set_cons_zero, List.set_cons_succ]
            refine wpAnyE_take (i := 12) (v := ?_) (some 90) rfl rfl (by kernel_rfl) (by kernel_rfl) (by kernel_rfl) (fun _ _ _ h => h) ?_ ?_
            rotate_left 1
            · (refine Or.inl ⟨by rfl, ?_⟩; intro w' hw'; have hq := below_via hcur hw'; have hq_e0 := Ext.trans e0 hw'; have hz_l1 := l1 _ hq_e0; have hz_l2 := l2 _ hq_e0; have hz_q1 := q1 _ hq_e0; have hz_q2 := q2 _ hq_e0; have hz_k1 := k1 _ hq_e0; have hz_k2 := k2 _ hq_e0; (try go_simp); (try rfl); done)
            try simp only [Act.put, List.setIfInBounds_toArray, List.set_cons_zero, List.set_cons_succ]
            refine wpAnyE_take (i := 13) (v := ?_) (some 91) rfl rfl (by kernel_rfl) (by kernel_rfl) (by kernel_rfl) (fun _ _ _ h => h) ?_ ?_
            rotate_left 1
            · (refine Or.inl ⟨by rfl, ?_⟩; intro w' hw'; have hq := below_via hcur hw'; have hq_e0 := Ext.trans e0 hw'; have hz_l1 := l1 _ hq_e0; have hz_l2 := l2 _ hq_e0; have hz_q1 := q1 _ hq_e0; have hz_q2 := q2 _ hq_e0; have hz_k1 := k1 _ hq_e0; have hz_k2 := k2 _ hq_e0; (try go_simp); (try rfl); done)
            try simp only [Act.put, List.setIfInBounds_toArray, List.set_cons_zero, List.set_cons_succ]
            refine wpAnyE_take (i := 14) (v := ?_) (some 92) rfl rfl (by kernel_rfl) (by kernel_rfl) (by kernel_rfl) (fun _ _ _ h => h) ?_ ?_
            rotate_left 1
            · (refine Or.inl ⟨by rfl, ?_⟩; intro w' hw'; have hq := below_via hcur hw'; have hq_e0 := Ext.trans e0 hw'; have hz_l1 := l1 _ hq_e0; have hz_l2 := l2 _ hq_e0; have hz_q1 := q1 _ hq_e0; have hz_q2 := q2 _ hq_e0; have hz_k1 := k1 _ hq_e0; have hz_k2 := k2 _ hq_e0; (try go_simp); (try rfl); done)
            try simp only [Act.put, List.setIfInBounds_toArray, List.set_cons_zero, List.set_cons_succ]
            refine wpAnyE_take (i := 15) (v := ?_) (some 93) rfl rfl (by kernel_rfl) (by kernel_rfl) (by kernel_rfl) (fun _ _ _ h => h) ?_ ?_
            rotate_left 1
            · (refine Or.inl ⟨by rfl, ?_⟩; intro w' hw'; have hq := below_via hcur hw'; have hq_e0 := Ext.trans e0 hw'; have hz_l1 := l1 _ hq_e0; have hz_l2 := l2 _ hq_e0; have hz_q1 := q1 _ hq_e0; have hz_q2 := q2 _ hq_e0; have hz_k1 := k1 _ hq_e0; have hz_k2 := k2 _ hq_e0; (try go_simp); (try rfl); done)
            try simp only [Act.put, List.setIfInBounds_toArray, List.set_cons_zero, List.set_cons_succ]
            refine wpAnyE_take (i := 16) (v := ?_) (some 94) rfl rfl (by kernel_rfl) (by kernel_rfl) (by kernel_rfl) (fun _ _ _ h => h) ?_ ?_
            rotate_left 1
            · (refine Or.inl ⟨by rfl, ?_⟩; intro w' hw'; have hq := below_via hcur hw'; have hq_e0 := Ext.trans e0 hw'; have hz_l1 := l1 _ hq_e0; have hz_l2 := l2 _ hq_e0; have hz_q1 := q1 _ hq_e0; have hz_q2 := q2 _ hq_e0; have hz_k1 := k1 _ hq_e0; have hz_k2 := k2 _ hq_e0; (try go_simp); (try rfl); done)
            try simp only [Act.put, List.setIfInBounds_toArray, List.set_cons_zero, List.set_cons_succ]
            refine wpAnyE_take (i := 17) (v := ?_) (some 95) rfl rfl (by kernel_rfl) (by kernel_rfl) (by kernel_rfl) (fun _ _ _ h => h) ?_ ?_
            rotate_left 1
            · (refine Or.inl ⟨by rfl, ?_⟩; intro w' hw'; have hq := below_via hcur hw'; have hq_e0 := Ext.trans e0 hw'; have hz_l1 := l1 _ hq_e0; have hz_l2 := l2 _ hq_e0; have hz_q1 := q1 _ hq_e0; have hz_q2 := q2 _ hq_e0; have hz_k1 := k1 _ hq_e0; have hz_k2 := k2 _ hq_e0; (try go_simp); (try rfl); done)
            try simp only [Act.put, List.setIfInBounds_toArray, List.set_cons_zero, List.set_cons_succ]
            refine wpAnyE_take (i := 18) (v := ?_) (some 96) rfl rfl (by kernel_rfl) (by kernel_rfl) (by kernel_rfl) (fun _ _ _ h => h) ?_ ?_
            rotate_left 1
            · (refine Or.inl ⟨by rfl, ?_⟩; intro w' hw'; have hq := below_via hcur hw'; have hq_e0 := Ext.trans e0 hw'; have hz_l1 := l1 _ hq_e0; have hz_l2 := l2 _ hq_e0; have hz_q1 := q1 _ hq_e0; have hz_q2 := q2 _ hq_e0; have hz_k1 := k1 _ hq_e0; have hz_k2 := k2 _ hq_e0; (try go_simp); (try rfl); done)
            try simp only [Act.put, List.setIfInBounds_toArray, List.set_cons_zero, List.set_cons_succ]
            refine wpAnyE_take (i := 19) (v := ?_) (some 97) rfl rfl (by kernel_rfl) (by kernel_rfl) (by kernel_rfl) (fun _ _ _ h => h) ?_ ?_
            rotate_left 1
            · (refine Or.inl ⟨by rfl, ?_⟩; intro w' hw'; have hq := below_via hcur hw'; have hq_e0 := Ext.trans e0 hw'; have hz_l1 := l1 _ hq_e0; have hz_l2 := l2 _ hq_e0; have hz_q1 := q1 _ hq_e0; have hz_q2 := q2 _ hq_e0; have hz_k1 := k1 _ hq_e0; have hz_k2 := k2 _ hq_e0; (try go_simp); (try rfl); done)
            try simp only [Act.put, List.setIfInBounds_toArray, List.set_cons_zero, List.set_cons_succ]
            refine wpAnyE_take (i := 20) (v := ?_) (some 98) rfl rfl (by kernel_rfl) (by kernel_rfl) (by kernel_rfl) (fun _ _ _ h => h) ?_ ?_
            rotate_left 1
            · (refine Or.inl ⟨by rfl, ?_⟩; intro w' hw'; have hq := below_via hcur hw'; have hq_e0 := Ext.trans e0 hw'; have hz_l1 := l1 _ hq_e0; have hz_l2 := l2 _ hq_e0; have hz_q1 := q1 _ hq_e0; have hz_q2 := q2 _ hq_e0; have hz_k1 := k1 _ hq_e0; have hz_k2 := k2 _ hq_e0; (try go_simp); (try rfl); done)
            try simp only [Act.put, List.setIfInBounds_toArray, List.set_cons_zero, List.set_cons_succ]
            refine wpAnyE_take (i := 21) (v := ?_) (some 99) rfl rfl (by kernel_rfl) (by kernel_rfl) (by kernel_rfl) (fun _ _ _ h => h) ?_ ?_
            rotate_left 1
            · (refine Or.inl ⟨by rfl, ?_⟩; intro w' hw'; have hq := below_via hcur hw'; have hq_e0 := Ext.trans e0 hw'; have hz_l1 := l1 _ hq_e0; have hz_l2 := l2 _ hq_e0; have hz_q1 := q1 _ hq_e0; have hz_q2 := q2 _ hq_e0; have hz_k1 := k1 _ hq_e0; have hz_k2 := k2 _ hq_e0; (try go_simp); (try rfl); done)
            try simp only [Act.put, List.setIfInBounds_toArray, List.set_cons_zero, List.set_cons_succ]
            refine wpAnyE_take (i := 22) (v := ?_) (some 100) rfl rfl (by kernel_rfl) (by kernel_rfl) (by kernel_rfl) (fun _ _ _ h => h) ?_ ?_
            rotate_left 1
            · (refine Or.inl ⟨by rfl, ?_⟩; intro w' hw'; have hq := below_via hcur hw'; have hq_e0 := Ext.trans e0 hw'; have hz_l1 := l1 _ hq_e0; have hz_l2 := l2 _ hq_e0; have hz_q1 := q1 _ hq_e0; have hz_q2 := q2 _ hq_e0; have hz_k1 := k1 _ hq_e0; have hz_k2 := k2 _ hq_e0; (try go_simp); (try rfl); done)
            try simp only [Act.put, List.setIfInBounds_toArray, List.set_cons_zero, List.set_cons_succ]
            refine wpAnyE_done (by kernel_rfl) ?_ _
            have xe : Ext w2 _ := hcur
            go_wp2_with fail
            go_roundw
            case rel => first | exact ⟨j + 1, by omega, by go_num, xe⟩ | ((repeat apply Exists.intro); exact ⟨⟨j + 1, by omega, by go_num, xe⟩, rfl⟩)
            case measure => simp [intOf]; omega
    · obtain rfl : j = q.length := by omega
      clear fl hin lcell hsame hokp i0 i1
      go_upto_region 15 with fail
      obtain ⟨n2, hn2, en2⟩ := hr2.out
      have hw2 : wrap64 (1 + wrap64 (xm % (l.length : Int))) = ((n2 + 1 : Nat) : Int) := by rw [en2]; exact wrap_next n2 (by omega)
      rw [hw2]
      clear hw2 en2 hr2 hwm
      generalize hm' : n2 + 1 = m' at *
      have hm1 : 1 ≤ m' := by omega
      have hm2 : m' ≤ l.length := by omega
      have hpr := rproof_any k hk l.length (.slice (some ad) l.length c) l m' true wr (Nat.le_refl _) hll hm1 hm2 hz (hl2.below xr)
      go_wp2_with fail
      refine hpr.mono ?_; rintro e w5 ⟨vr, rfl, oq, b5⟩
      have hpq := oq.sl
      have x5 := Ext.trans xr b5
      have hO5 := hO2.below x5
      have hg5 := hg2.below x5
      have hcs := consistent_any G k hk (.slice (some ad) l.length c) l m' old ol vr _ w5 (by omega) (by omega) (hl2.below x5) hpq hg5 hll hz
      have hok := consistentL_ok (k := k) (m := 1048576) (old := old) (dflt := old) (pick := firstP) (l := l) (j := (m' : Int)) (ps := proofN k l.length l m' true) ol ol firstP_mem (by omega) hz hpq.2
      generalize consistentL k old old firstP l m' (proofN k l.length l m' true) = o at *
      obtain ⟨hml, ho1, ho2⟩ := may_told hok
      unfold hv at hcs
      clear hpr oq hok hpq b5
      go_wp2_with ((with_reducible refine at_load ?_); refine arr_dg.loadL hO5 (by rfl) ol _ rfl rfl ?_)
      refine hcs.mono ?_; rintro e w6 ⟨v6, rfl, hp6, b6⟩
      obtain ⟨B, d, B', d', rfl, sA, sB⟩ := pair_open hp6
      generalize (o.getD ([], [])).1 = t1 at *
      generalize (o.getD ([], [])).2 = t2 at *
      have e7 := ext_alloc w6 (.cells #[.slice B t1.length d, .slice B' t2.length d'] 30)
      have p7 : PR 30 (w6.alloc (.cells #[.slice B t1.length d, .slice B' t2.length d'] 30)) w6.heap.size (.slice B t1.length d) (.slice B' t2.length d') := heap_alloc_new _ _
      have b7 := Ext.trans b6 e7
      have x7 := Ext.trans x5 b7
      have hm7 := may_any G k _ _ t1 t2 _ hk (by omega) (by omega) (sA.below e7) (sB.below e7) (hg5.below b7)
      rw [hml] at hm7
      unfold hv at hm7
      have c0 := p7.c0.1
      have c1 := p7.c1.1
      generalize o.isSome = os at *
      have qs : (os == os) = true := beq_iff_eq.2 rfl
      clear hcs hml e7 b6 b7 hp6 sA sB hO5 hg5
      go_wp2_with fail
      refine hm7.mono ?_; rintro e w8 ⟨rfl, b8⟩
      have x8 := Ext.trans x7 b8
      clear hm7 c0 c1
      go_wp2_with fail
      refine (wakes_any _).mono ?_; rintro e w9 ⟨rfl, b9⟩
      have x9 := Ext.trans x8 b9
      go_wp2_with fail
      go_ret
      exact ⟨rfl, Below.trans xw (x9.mono xw.size)⟩
end Go.Proofs.Ytnpbapefjbfndaa

/- The reference's block (walk). -/
import Derived.Test.YtcaaeimcieooiaaShaC
set_option linter.unusedVariables false
set_option linter.unusedSimpArgs false
namespace Go.Proofs.Ytcaaeimcieooiaa
open Go.RowKit
attribute [local go_sem high] i32_xor i32_and i32_or i32_not i32_add wrap_8_32 wrap_32_8 stK

set_option maxHeartbeats 400000 in
theorem turned_any (x : UInt32) (n : Nat) (m : Int) (hm : m = n) (h0 : 0 < n) (hn : n < 32) (w : World) : Calls Try.prog 45 #[.int .u32 (c32 x), .int .u64 m] w fun e w' => e = .returned (.int .u32 (c32 (rot x n))) ∧ w = w' := by
  subst hm
  have h2 : Op.shift .shl .u32 (c32 x) .u64 ((32 - n : Nat) : Int) = _ := i32_shl x .u64 (32 - n) (by omega)
  have h3 : Op.shift .shr .u32 (c32 x) .u64 (n : Int) = _ := i32_shr x .u64 n hn
  have h4 : IntKind.u64.wrap (32 - (n : Int)) = ((32 - n : Nat) : Int) := by rw [IntKind.wrap_u64]; omega
  have h5 : bits .or .u32 (c32 x / 2 ^ n) (c32 x * 2 ^ (32 - n) % 4294967296) = c32 (rot x n) := by
    rw [c32_shl x _ (by omega), c32_div_two_pow x n hn, bits_or32]; rfl
  go_enter Try.func45, Try.ntmps45
  go_wp2
  go_ret
  exact ⟨rfl, rfl⟩
set_option maxRecDepth 10000 in
set_option maxHeartbeats 400000 in
theorem rconst_any (w : World) : Calls Try.prog 46 #[] w fun e w' => e = .returned (.agg (u32s shaK).toArray) ∧ Below w.heap.size w w' := by
  go_enter Try.func46, Try.ntmps46
  go_wp2_with (refine wpl_build47 rfl rfl ?_)
  refine ret_cell (v := .agg (u32s shaK).toArray) Try.results46 rfl ?_ rfl ⟨rfl, ext_alloc _ _⟩
  exact run_loadVar_new (P := Try.prog) w 80 (u32s shaK).toArray 64 73 (by kernel_rfl) (by kernel_rfl)
set_option maxHeartbeats 400000 in
theorem rfirst_any (w : World) : Calls Try.prog 41 #[] w fun e w' => e = .returned (.agg (u32s first8.list).toArray) ∧ Below w.heap.size w w' := by
  go_enter Try.func41, Try.ntmps41
  go_wp2
  refine bodyPost_ret (v := .agg (u32s first8.list).toArray) (by simp [results, Try.results41, go_sem]; rfl) rfl ⟨rfl, ext_alloc _ _⟩

/-- A word, byte by byte. -/
def partW (b : List UInt8) (k : Nat) : Nat → UInt32
  | 0 => 0
  | j + 1 => 256 * partW b k j + (b.getD (4 * k + j) 0).toUInt32
theorem partW_four (b : List UInt8) (k : Nat) : partW b k 4 = word b k := rfl
theorem mul256 (x : UInt32) (y : UInt8) : ((256 * c32 x) % (4294967296 : Int) + c32 y.toUInt32) % (4294967296 : Int) = c32 (256 * x + y.toUInt32) := by
  have h : (256 : UInt32).toNat = 256 := rfl
  unfold c32; simp only [UInt32.toNat_add, UInt32.toNat_mul, h]; omega

theorem size_alloc (w : World) (o : Obj) : (w.alloc o).heap.size = w.heap.size + 1 := by show (w.heap.push o).size = _; simp
theorem next4' (x16 x7 x15 x2 : UInt32) : c32 (x16 + sg0 x15 + x7 + sg1 x2) = c32 (x16 + x7 + sg0 x15 + sg1 x2) := by
  rw [UInt32.add_assoc x16, UInt32.add_comm (sg0 x15), ← UInt32.add_assoc]

theorem next4r (x16 x7 x15 x2 : UInt32) : ((((c32 x16 + bits BinOp.xor IntKind.u32 (c32 (rot x15 7 ^^^ rot x15 18)) (c32 x15 / 8)) % (4294967296 : Int) + c32 x7) % (4294967296 : Int) + bits BinOp.xor IntKind.u32 (c32 (rot x2 17 ^^^ rot x2 19)) (c32 x2 / 1024)) % (4294967296 : Int)) = c32 (x16 + x7 + sg0 x15 + sg1 x2) := by
  have h1 : c32 x15 / (8 : Int) = c32 (x15 >>> 3) := c32_div_two_pow x15 3 (by omega)
  have h2 : c32 x2 / (1024 : Int) = c32 (x2 >>> 10) := c32_div_two_pow x2 10 (by omega)
  rw [h1, h2, bits_xor32, bits_xor32, add32m, add32m, add32m, ← next4']; rfl
theorem size8 (t : S8) : (u32s t.list).toArray.size = 8 := rfl
theorem info49 (t : S8) : (Try.prog.info? 74).map (·.size) = some (u32s t.list).toArray.size := by rw [size8]; kernel_rfl
theorem alloc3 {w W3 : World} {o1 o2 o3 : Obj} (hW : ((w.alloc o1).alloc o2).alloc o3 = W3) : W3.heap[w.heap.size]? = some o1 ∧ W3.heap[w.heap.size + 1]? = some o2 ∧ W3.heap[w.heap.size + 1 + 1]? = some o3 ∧
    Below w.heap.size w W3 ∧ W3.heap.size = w.heap.size + 1 + 1 + 1 := by
  subst hW
  refine ⟨?_, ?_, ?_, Ext.trans (ext_alloc _ _) (Ext.trans (ext_alloc _ _) (ext_alloc _ _)), by rw [size_alloc, size_alloc, size_alloc]⟩
  · rw [Below.heap_alloc _ _ _ (by rw [size_alloc, size_alloc]; omega), Below.heap_alloc _ _ _ (by rw [size_alloc]; omega)]; exact heap_alloc_new _ _
  · rw [Below.heap_alloc _ _ _ (by rw [size_alloc, size_alloc]; omega)]
    have := heap_alloc_new (w.alloc o1) o2
    rwa [size_alloc] at this
  · have := heap_alloc_new ((w.alloc o1).alloc o2) o3
    rwa [size_alloc, size_alloc] at this
set_option maxRecDepth 20000 in
set_option maxHeartbeats 2000000 in
theorem rblock_any (s : S8) (v : Value) (b : List UInt8) (hb : b.length = 64) (w : World) (hr : SlB w v b) :
    Calls Try.prog 42 #[.agg (u32s s.list).toArray, v] w fun e w' => e = .returned (.agg (u32s (blockS s b).list).toArray) ∧ Below w.heap.size w w' := by
  obtain ⟨A, c, rfl, hc, hcm, hA, hrr⟩ := hr
  rw [hb] at hc ⊢
  have hAd : ∃ ad, A = some ad := by
    obtain ⟨ad, e, _⟩ := RdB.cell hrr (i := 0) (by omega)
    exact ⟨ad, e⟩
  obtain ⟨ad, rfl⟩ := hAd
  clear hA
  go_enter Try.func42, Try.ntmps42
  go_wp2
  generalize hW : World.alloc (World.alloc (World.alloc w _) _) _ = W3
  obtain ⟨h1, h2, h3, h4, h5⟩ := alloc3 hW
  have hS : Row8 W3 w.heap.size s := h1
  have hR : Row8 W3 (w.heap.size + 1) zero8 := h2
  have hB0 : Row64 W3 (w.heap.size + 1 + 1) (schedN b 0 ++ List.replicate (64 - 0) 0) := h3
  clear h1 h2 h3 hW
  generalize hBn : w.heap.size + 1 + 1 = B at hB0 ⊢
  generalize hRn : w.heap.size + 1 = R at hR ⊢
  generalize hSn : w.heap.size = S at hS ⊢
  rw [hSn] at h4
  have hwr : ∀ wr, Below B W3 wr → Below w.heap.size w wr := fun wr bw => by rw [hSn]; exact h4.trans (bw.mono (by omega))
  have hrd : ∀ wr, Below B W3 wr → ∀ j, j < 64 → ∀ w', Ext wr w' → w'.cell? (ad.add j) = some (.int .u8 (c8 (b.getD j 0))) := fun wr bw j hj w' hw' => by
    obtain ⟨ad', e, h⟩ := RdB.cell ((hrr.below' (hwr wr bw)).below' hw') (i := j) (by omega)
    cases e; exact h
  go_loopw [6] (fun i wr => ∃ k : Nat, k ≤ 16 ∧ i = .int .i64 k ∧ Row64 wr B (schedN b k ++ List.replicate (64 - k) 0) ∧ Below B W3 wr) (fun i _ => 16 - (intOf i).toNat)
  case atStart => exact ⟨0, by omega, rfl, hB0, Below.refl _ _⟩
  case round =>
    obtain ⟨k, hk, rfl, hrow, bw⟩ := hrel
    by_cases h16 : k < 16
    ·
      -- DEV
      have hl : (schedN b k ++ List.replicate (64 - k) 0).length = 64 := by simp [schedN_length]; omega
      have hk16 : (k : Int) < 16 := by omega
      go_wp2
      go_loopw [7] (fun i wr => ∃ j : Nat, j ≤ 4 ∧ i = .int .i64 j ∧ Row64 wr B ((schedN b k ++ List.replicate (64 - k) 0).set k (partW b k j)) ∧ Below B W3 wr) (fun i _ => 4 - (intOf i).toNat)
      case atStart =>
        refine ⟨0, by omega, rfl, ?_, bw⟩
        have : (schedN b k ++ List.replicate (64 - k) 0).set k (partW b k 0) = schedN b k ++ List.replicate (64 - k) 0 := by
          obtain ⟨m, hm⟩ : ∃ m, 64 - k = m + 1 := ⟨63 - k, by omega⟩
          rw [hm, List.set_append_right _ _ (by rw [schedN_length]; omega), schedN_length, Nat.sub_self]; rfl
        rw [this]; exact hrow
      case round =>
        clear hrow bw
        obtain ⟨j, hj, rfl, hrow, bw⟩ := hrel
        by_cases h4j : j < 4
        · have hcell := hrd wr bw (4 * k + j) (by omega)
          have hB : ∀ w', Ext wr w' → w'.cell? ⟨B, k, none⟩ = some (.int .u32 (c32 (partW b k j))) ∧ w'.frozen? ⟨B, k, none⟩ = false := fun w' hw' => by
            have := (hrow.below hw').cell (k := k) (by rw [List.length_set]; omega)
            rwa [List.getD_eq_getElem?_getD, List.getElem?_set_self (by omega)] at this
          have hpn : Hid (partW b k (j + 1) = 256 * partW b k j + (b.getD (4 * k + j) 0).toUInt32) := rfl
          have hset := hrow.set k (256 * partW b k j + (b.getD (4 * k + j) 0).toUInt32)
          rw [List.set_set, ← hpn.out] at hset
          rw [hpn.out] at hset
          replace hset : Hid (Row64 (wr.setCell ⟨B, k, none⟩ (.int .u32 (c32 (256 * partW b k j + (b.getD (4 * k + j) 0).toUInt32)))) B ((schedN b k ++ List.replicate (64 - k) 0).set k (256 * partW b k j + (b.getD (4 * k + j) 0).toUInt32))) := hset
          generalize partW b k j = x at hB hset hpn
          generalize b.getD (4 * k + j) 0 = y at hcell hset hpn
          have i1 : (4 * (k : Int) + j).toNat = 4 * k + j := by omega
          have j1 : (0 : Int) ≤ 4 * (k : Int) + j := by omega
          have k1 : 4 * (k : Int) + j < 64 := by omega
          have kk : (k : Int) < 64 := by omega
          have w0 : IntKind.i64.wrap (4 * (k : Int)) = 4 * k := by rw [IntKind.wrap_i64]; omega
          have w1 : IntKind.i64.wrap (4 * (k : Int) + j) = 4 * k + j := by rw [IntKind.wrap_i64]; omega
          have hcur : Below wr.heap.size wr wr := Below.refl _ _
          have e0 := Ext.refl wr
          go_wp2
          refine wp_region_F 15 (by kernel_rfl) (fun hcl => ?_)
          replace hcur := below_via hcur (ext_drew _)
          replace e0 := Ext.trans e0 (ext_drew _)
          refine wpAnyF_take (fin := 15) (i := 0) (v := ?_) hcl (some 31) rfl rfl (by kernel_rfl) (by kernel_rfl) (by kernel_rfl) (fun _ _ _ h => h) (by kernel_rfl) ?_ (fun hcl => ?_)
          rotate_left 1
          · (refine Or.inl ⟨by rfl, ?_⟩; intro w' hw'; have hq := below_via hcur hw'; have hq_e0 := Ext.trans e0 hw'; have hz_hcell := hcell _ hq_e0; have hz_hB := hB _ hq_e0; (try go_simp); (try rfl); done)
          try simp only [Act.put, List.setIfInBounds_toArray, List.set_cons_zero, List.set_cons_succ]
          refine wpAnyF_take (fin := 15) (i := 1) (v := ?_) hcl (some 32) rfl rfl (by kernel_rfl) (by kernel_rfl) (by kernel_rfl) (fun _ _ _ h => h) (by kernel_rfl) ?_ (fun hcl => ?_)
          rotate_left 1
          · (refine Or.inl ⟨by rfl, ?_⟩; intro w' hw'; have hq := below_via hcur hw'; have hq_e0 := Ext.trans e0 hw'; have hz_hcell := hcell _ hq_e0; have hz_hB := hB _ hq_e0; (try go_simp); (try rfl); done)
          try simp only [Act.put, List.setIfInBounds_toArray, List.set_cons_zero, List.set_cons_succ]
          refine wpAnyF_take (fin := 15) (i := 2) (v := ?_) hcl (some 33) rfl rfl (by kernel_rfl) (by kernel_rfl) (by kernel_rfl) (fun _ _ _ h => h) (by kernel_rfl) ?_ (fun hcl => ?_)
          rotate_left 1
          · (refine Or.inl ⟨by rfl, ?_⟩; intro w' hw'; have hq := below_via hcur hw'; have hq_e0 := Ext.trans e0 hw'; have hz_hcell := hcell _ hq_e0; have hz_hB := hB _ hq_e0; (try go_simp); (try rfl); done)
          try simp only [Act.put, List.setIfInBounds_toArray, List.set_cons_zero, List.set_cons_succ]
          refine wpAnyF_take (fin := 15) (i := 3) (v := ?_) hcl (some 34) rfl rfl (by kernel_rfl) (by kernel_rfl) (by kernel_rfl) (fun _ _ _ h => h) (by kernel_rfl) ?_ (fun hcl => ?_)
          rotate_left 1
          · (refine Or.inl ⟨by rfl, ?_⟩; intro w' hw'; have hq := below_via hcur hw'; have hq_e0 := Ext.trans e0 hw'; have hz_hcell := hcell _ hq_e0; have hz_hB := hB _ hq_e0; (try go_simp); (try rfl); done)
          try simp only [Act.put, List.setIfInBounds_toArray, List.set_cons_zero, List.set_cons_succ]
          refine wpAnyF_take (fin := 15) (i := 4) (v := ?_) hcl (some 35) rfl rfl (by kernel_rfl) (by kernel_rfl) (by kernel_rfl) (fun _ _ _ h => h) (by kernel_rfl) ?_ (fun hcl => ?_)
          rotate_left 1
          · (refine Or.inl ⟨by rfl, ?_⟩; intro w' hw'; have hq := below_via hcur hw'; have hq_e0 := Ext.trans e0 hw'; have hz_hcell := hcell _ hq_e0; have hz_hB := hB _ hq_e0; (try go_simp); (try rfl); done)
          try simp only [Act.put, List.setIfInBounds_toArray, List.set_cons_zero, List.set_cons_succ]
          refine wpAnyF_take (fin := 15) (i := 5) (v := ?_) hcl (some 36) rfl rfl (by kernel_rfl) (by kernel_rfl) (by kernel_rfl) (fun _ _ _ h => h) (by kernel_rfl) ?_ (fun hcl => ?_)
          rotate_left 1
          · (refine Or.inl ⟨by rfl, ?_⟩; intro w' hw'; have hq := below_via hcur hw'; have hq_e0 := Ext.trans e0 hw'; have hz_hcell := hcell _ hq_e0; have hz_hB := hB _ hq_e0; (try go_simp); (try rfl); done)
          try simp only [Act.put, List.setIfInBounds_toArray, List.set_cons_zero, List.set_cons_succ]
          refine wpAnyF_take (fin := 15) (i := 6) (v := ?_) hcl (some 37) rfl rfl (by kernel_rfl) (by kernel_rfl) (by kernel_rfl) (fun _ _ _ h => h) (by kernel_rfl) ?_ (fun hcl => ?_)
          rotate_left 1
          · (refine Or.inl ⟨by rfl, ?_⟩; intro w' hw'; have hq := below_via hcur hw'; have hq_e0 := Ext.trans e0 hw'; have hz_hcell := hcell _ hq_e0; have hz_hB := hB _ hq_e0; (try go_simp); (try rfl); done)
          try simp only [Act.put, List.setIfInBounds_toArray, List.set_cons_zero, List.set_cons_succ]
          refine wpAnyF_take (fin := 15) (i := 7) (v := ?_) hcl (some 38) rfl rfl (by kernel_rfl) (by kernel_rfl) (by kernel_rfl) (fun _ _ _ h => h) (by kernel_rfl) ?_ (fun hcl => ?_)
          rotate_left 1
          · (refine Or.inl ⟨by rfl, ?_⟩; intro w' hw'; have hq := below_via hcur hw'; have hq_e0 := Ext.trans e0 hw'; have hz_hcell := hcell _ hq_e0; have hz_hB := hB _ hq_e0; (try go_simp); (try rfl); done)
          try simp only [Act.put, List.setIfInBounds_toArray, List.set_cons_zero, List.set_cons_succ]
          refine wpAnyF_take (fin := 15) (i := 8) (v := ?_) hcl (some 39) rfl rfl (by kernel_rfl) (by kernel_rfl) (by kernel_rfl) (fun _ _ _ h => h) (by kernel_rfl) ?_ (fun hcl => ?_)
          rotate_left 1
          · (refine Or.inl ⟨by rfl, ?_⟩; intro w' hw'; have hq := below_via hcur hw'; have hq_e0 := Ext.trans e0 hw'; have hz_hcell := hcell _ hq_e0; have hz_hB := hB _ hq_e0; (try go_simp); (try rfl); done)
          try simp only [Act.put, List.setIfInBounds_toArray, List.set_cons_zero, List.set_cons_succ]
          refine wpAnyF_take (fin := 15) (i := 9) (v := ?_) hcl (some 40) rfl rfl (by kernel_rfl) (by kernel_rfl) (by kernel_rfl) (fun _ _ _ h => h) (by kernel_rfl) ?_ (fun hcl => ?_)
          rotate_left 1
          · (refine Or.inl ⟨by rfl, ?_⟩; intro w' hw'; have hq := below_via hcur hw'; have hq_e0 := Ext.trans e0 hw'; have hz_hcell := hcell _ hq_e0; have hz_hB := hB _ hq_e0; (try go_simp); (try rfl); done)
          try simp only [Act.put, List.setIfInBounds_toArray, List.set_cons_zero, List.set_cons_succ]
          refine wpAnyF_take (fin := 15) (i := 10) (v := ?_) hcl (some 41) rfl rfl (by kernel_rfl) (by kernel_rfl) (by kernel_rfl) (fun _ _ _ h => h) (by kernel_rfl) ?_ (fun hcl => ?_)
          rotate_left 1
          · (refine Or.inl ⟨by rfl, ?_⟩; intro w' hw'; have hq := below_via hcur hw'; have hq_e0 := Ext.trans e0 hw'; have hz_hcell := hcell _ hq_e0; have hz_hB := hB _ hq_e0; (try go_simp); (try rfl); done)
          try simp only [Act.put, List.setIfInBounds_toArray, List.set_cons_zero, List.set_cons_succ]
          refine wpAnyF_take (fin := 15) (i := 11) (v := ?_) hcl (some 42) rfl rfl (by kernel_rfl) (by kernel_rfl) (by kernel_rfl) (fun _ _ _ h => h) (by kernel_rfl) ?_ (fun hcl => ?_)
          rotate_left 1
          · (refine Or.inl ⟨by rfl, ?_⟩; intro w' hw'; have hq := below_via hcur hw'; have hq_e0 := Ext.trans e0 hw'; have hz_hcell := hcell _ hq_e0; have hz_hB := hB _ hq_e0; (try go_simp); (try rfl); done)
          try simp only [Act.put, List.setIfInBounds_toArray, List.set_cons_zero, List.set_cons_succ]
          refine wpAnyF_take (fin := 15) (i := 12) (v := ?_) hcl (some 43) rfl rfl (by kernel_rfl) (by kernel_rfl) (by kernel_rfl) (fun _ _ _ h => h) (by kernel_rfl) ?_ (fun hcl => ?_)
          rotate_left 1
          · (refine Or.inl ⟨by rfl, ?_⟩; intro w' hw'; have hq := below_via hcur hw'; have hq_e0 := Ext.trans e0 hw'; have hz_hcell := hcell _ hq_e0; have hz_hB := hB _ hq_e0; (try go_simp); (try rfl); done)
          try simp only [Act.put, List.setIfInBounds_toArray, List.set_cons_zero, List.set_cons_succ]
          refine wpAnyF_take (fin := 15) (i := 13) (v := ?_) hcl (some 44) rfl rfl (by kernel_rfl) (by kernel_rfl) (by kernel_rfl) (fun _ _ _ h => h) (by kernel_rfl) ?_ (fun hcl => ?_)
          rotate_left 1
          · (refine Or.inl ⟨by rfl, ?_⟩; intro w' hw'; have hq := below_via hcur hw'; have hq_e0 := Ext.trans e0 hw'; have hz_hcell := hcell _ hq_e0; have hz_hB := hB _ hq_e0; (try go_simp); (try rfl); done)
          try simp only [Act.put, List.setIfInBounds_toArray, List.set_cons_zero, List.set_cons_succ]
          refine wpAnyF_take (fin := 15) (i := 14) (v := ?_) hcl (some 45) rfl rfl (by kernel_rfl) (by kernel_rfl) (by kernel_rfl) (fun _ _ _ h => h) (by kernel_rfl) ?_ (fun hcl => ?_)
          rotate_left 1
          · (refine Or.inl ⟨by rfl, ?_⟩; intro w' hw'; have hq := below_via hcur hw'; have hq_e0 := Ext.trans e0 hw'; have hz_hcell := hcell _ hq_e0; have hz_hB := hB _ hq_e0; (try go_simp); (try rfl); done)
          try simp only [Act.put, List.setIfInBounds_toArray, List.set_cons_zero, List.set_cons_succ]
          refine wpAnyF_last (fin := 15) rfl (by kernel_rfl) (by kernel_rfl) (by rfl) (fun K hK => ?_)
          have hBc := hB _ e0
          go_simp
          refine hK.out _ _ ?_
          clear hK K hcl
          go_wp2
          go_roundw
          case rel =>
            rw [mul256]
            refine ⟨j + 1, by omega, by go_num, ?_, (below_setCell bw (Nat.le_refl _) _).drew⟩
            rw [hpn.out]; exact hset.out
          case measure => simp [intOf]; omega
        · obtain rfl : j = 4 := by omega
          rw [partW_four] at hrow
          have e := sched_set b k (by omega)
          rw [if_pos h16] at e
          rw [e] at hrow
          go_wp2
          go_roundw
          case rel => exact ⟨k + 1, by omega, by go_num, hrow, bw⟩
          case measure => simp [intOf]; omega
      -- /DEV
    · obtain rfl : k = 16 := by omega
      go_wp2
      rw [show ((16 : Nat) : Int) = 16 from rfl]
      go_loopw [8] (fun i wr => ∃ k : Nat, 16 ≤ k ∧ k ≤ 64 ∧ i = .int .i64 k ∧ Row64 wr B (schedN b k ++ List.replicate (64 - k) 0) ∧ Below B W3 wr) (fun i _ => 64 - (intOf i).toNat)
      case atStart => exact ⟨16, by omega, by omega, rfl, hrow, bw⟩
      case round =>
        clear hrow bw
        obtain ⟨k, h16, hk, rfl, hrow, bw⟩ := hrel
        replace h16 : ¬ k < 16 := by omega
        by_cases h64 : k < 64
        -- DEV
        · have hl : (schedN b k ++ List.replicate (64 - k) 0).length = 64 := by simp [schedN_length]; omega
          have hcell : ∀ j, j < k → ∀ w', Ext wr w' → w'.cell? ⟨B, j, none⟩ = some (.int .u32 (c32 ((schedN b k).getD j 0))) := fun j hj w' hw' => by
            have := ((hrow.below hw').cell (k := j) (by omega)).1
            rw [this]
            simp [List.getElem?_append_left, schedN_length, hj]
          have hBk : ∀ w', Ext wr w' → w'.cell? ⟨B, k, none⟩ = some (.int .u32 (c32 ((schedN b k ++ List.replicate (64 - k) 0).getD k 0))) ∧ w'.frozen? ⟨B, k, none⟩ = false := fun w' hw' => (hrow.below hw').cell (k := k) (by omega)
          generalize (schedN b k ++ List.replicate (64 - k) 0).getD k 0 = old at hBk
          have f15 := hcell (k - 15) (by omega)
          have f2 := hcell (k - 2) (by omega)
          have f16 := hcell (k - 16) (by omega)
          have f7 := hcell (k - 7) (by omega)
          have hn : Hid (nextW (schedN b k) = (schedN b k).getD (k - 16) 0 + (schedN b k).getD (k - 7) 0 + sg0 ((schedN b k).getD (k - 15) 0) + sg1 ((schedN b k).getD (k - 2) 0)) := by
            unfold Hid nextW; rw [schedN_length]
          generalize (schedN b k).getD (k - 16) 0 = x16 at hn f16
          generalize (schedN b k).getD (k - 15) 0 = x15 at hn f15
          generalize (schedN b k).getD (k - 7) 0 = x7 at hn f7
          generalize (schedN b k).getD (k - 2) 0 = x2 at hn f2
          have i15 : ((k : Int) - 15).toNat = k - 15 := by omega
          have i2 : ((k : Int) - 2).toNat = k - 2 := by omega
          have i16 : ((k : Int) - 16).toNat = k - 16 := by omega
          have i7 : ((k : Int) - 7).toNat = k - 7 := by omega
          have j15 : (15 : Int) ≤ k := by omega
          have j2 : (2 : Int) ≤ k := by omega
          have j16 : (16 : Int) ≤ k := by omega
          have j7 : (7 : Int) ≤ k := by omega
          have q15 : (0 : Int) ≤ (k : Int) - 15 := by omega
          have q2 : (0 : Int) ≤ (k : Int) - 2 := by omega
          have q16 : (0 : Int) ≤ (k : Int) - 16 := by omega
          have q7 : (0 : Int) ≤ (k : Int) - 7 := by omega
          have k15 : (k : Int) - 15 < 64 := by omega
          have k2 : (k : Int) - 2 < 64 := by omega
          have k16 : (k : Int) - 16 < 64 := by omega
          have k7 : (k : Int) - 7 < 64 := by omega
          have w15 : IntKind.i64.wrap ((k : Int) - 15) = k - 15 := by rw [IntKind.wrap_i64]; omega
          have w2 : IntKind.i64.wrap ((k : Int) - 2) = k - 2 := by rw [IntKind.wrap_i64]; omega
          have w16 : IntKind.i64.wrap ((k : Int) - 16) = k - 16 := by rw [IntKind.wrap_i64]; omega
          have w7 : IntKind.i64.wrap ((k : Int) - 7) = k - 7 := by rw [IntKind.wrap_i64]; omega
          have hcur : Below wr.heap.size wr wr := Below.refl _ _
          have e0 := Ext.refl wr
          clear hcell hl
          have kk : (k : Int) < 64 := by omega
          go_wp2
          refine wp_region_E (by kernel_rfl) ?_
          replace hcur := below_via hcur (ext_drew _)
          replace e0 := Ext.trans e0 (ext_drew _)
          refine wpAnyE_take (i := 0) (v := ?_) (some 50) rfl rfl (by kernel_rfl) (by kernel_rfl) (by kernel_rfl) (fun _ _ _ h => h) ?_ ?_
          rotate_left 1
          · (refine Or.inl ⟨by rfl, ?_⟩; intro w' hw'; have hq := below_via hcur hw'; have hq_e0 := Ext.trans e0 hw'; have hz_f15 := f15 _ hq_e0; (try go_simp); (try rfl); done)
          try simp only [Act.put, List.setIfInBounds_toArray, List.set_cons_zero, List.set_cons_succ]
          refine wpAnyE_take (i := 1) (v := ?_) (some 51) rfl rfl (by kernel_rfl) (by kernel_rfl) (by kernel_rfl) (fun _ _ _ h => h) ?_ ?_
          rotate_left 1
          · (refine Or.inl ⟨by rfl, ?_⟩; intro w' hw'; have hq := below_via hcur hw'; have hq_e0 := Ext.trans e0 hw'; have hz_f15 := f15 _ hq_e0; (try go_simp); (try rfl); done)
          try simp only [Act.put, List.setIfInBounds_toArray, List.set_cons_zero, List.set_cons_succ]
          refine wpAnyE_take (i := 2) (v := ?_) (some 52) rfl rfl (by kernel_rfl) (by kernel_rfl) (by kernel_rfl) (fun _ _ _ h => h) ?_ ?_
          rotate_left 1
          · (refine Or.inl ⟨by rfl, ?_⟩; intro w' hw'; have hq := below_via hcur hw'; have hq_e0 := Ext.trans e0 hw'; have hz_f15 := f15 _ hq_e0; (try go_simp); (try rfl); done)
          try simp only [Act.put, List.setIfInBounds_toArray, List.set_cons_zero, List.set_cons_succ]
          refine wpAnyE_take (i := 3) (v := ?_) (some 53) rfl rfl (by kernel_rfl) (by kernel_rfl) (by kernel_rfl) (fun _ _ _ h => h) ?_ ?_
          rotate_left 1
          · (refine Or.inl ⟨by rfl, ?_⟩; intro w' hw'; have hq := below_via hcur hw'; have hq_e0 := Ext.trans e0 hw'; have hz_f15 := f15 _ hq_e0; (try go_simp); (try rfl); done)
          try simp only [Act.put, List.setIfInBounds_toArray, List.set_cons_zero, List.set_cons_succ]
          refine wpAnyE_take (i := 5) (v := ?_) (some 55) rfl rfl (by kernel_rfl) (by kernel_rfl) (by kernel_rfl) (fun _ _ _ h => h) ?_ ?_
          rotate_left 1
          · (refine Or.inl ⟨by rfl, ?_⟩; intro w' hw'; have hq := below_via hcur hw'; have hq_e0 := Ext.trans e0 hw'; have hz_f15 := f15 _ hq_e0; (try go_simp); (try rfl); done)
          try simp only [Act.put, List.setIfInBounds_toArray, List.set_cons_zero, List.set_cons_succ]
          refine wpAnyE_take (i := 6) (v := ?_) (some 56) rfl rfl (by kernel_rfl) (by kernel_rfl) (by kernel_rfl) (fun _ _ _ h => h) ?_ ?_
          rotate_left 1
          · (refine Or.inl ⟨by rfl, ?_⟩; intro w' hw'; have hq := below_via hcur hw'; have hq_e0 := Ext.trans e0 hw'; have hz_f15 := f15 _ hq_e0; (try go_simp); (try rfl); done)
          try simp only [Act.put, List.setIfInBounds_toArray, List.set_cons_zero, List.set_cons_succ]
          refine wpAnyE_take (i := 7) (v := ?_) (some 57) rfl rfl (by kernel_rfl) (by kernel_rfl) (by kernel_rfl) (fun _ _ _ h => h) ?_ ?_
          rotate_left 1
          · (refine Or.inl ⟨by rfl, ?_⟩; intro w' hw'; have hq := below_via hcur hw'; have hq_e0 := Ext.trans e0 hw'; have hz_f15 := f15 _ hq_e0; (try go_simp); (try rfl); done)
          try simp only [Act.put, List.setIfInBounds_toArray, List.set_cons_zero, List.set_cons_succ]
          refine wpAnyE_take (i := 8) (v := ?_) (some 58) rfl rfl (by kernel_rfl) (by kernel_rfl) (by kernel_rfl) (fun _ _ _ h => h) ?_ ?_
          rotate_left 1
          · (refine Or.inl ⟨by rfl, ?_⟩; intro w' hw'; have hq := below_via hcur hw'; have hq_e0 := Ext.trans e0 hw'; have hz_f15 := f15 _ hq_e0; (try go_simp); (try rfl); done)
          try simp only [Act.put, List.setIfInBounds_toArray, List.set_cons_zero, List.set_cons_succ]
          refine wpAnyE_take (i := 11) (v := ?_) (some 61) rfl rfl (by kernel_rfl) (by kernel_rfl) (by kernel_rfl) (fun _ _ _ h => h) ?_ ?_
          rotate_left 1
          · (refine Or.inl ⟨by rfl, ?_⟩; intro w' hw'; have hq := below_via hcur hw'; have hq_e0 := Ext.trans e0 hw'; have hz_f15 := f15 _ hq_e0; (try go_simp); (try rfl); done)
          try simp only [Act.put, List.setIfInBounds_toArray, List.set_cons_zero, List.set_cons_succ]
          refine wpAnyE_take (i := 12) (v := ?_) (some 62) rfl rfl (by kernel_rfl) (by kernel_rfl) (by kernel_rfl) (fun _ _ _ h => h) ?_ ?_
          rotate_left 1
          · (refine Or.inl ⟨by rfl, ?_⟩; intro w' hw'; have hq := below_via hcur hw'; have hq_e0 := Ext.trans e0 hw'; have hz_f15 := f15 _ hq_e0; (try go_simp); (try rfl); done)
          try simp only [Act.put, List.setIfInBounds_toArray, List.set_cons_zero, List.set_cons_succ]
          refine wpAnyE_take (i := 13) (v := ?_) (some 63) rfl rfl (by kernel_rfl) (by kernel_rfl) (by kernel_rfl) (fun _ _ _ h => h) ?_ ?_
          rotate_left 1
          · (refine Or.inl ⟨by rfl, ?_⟩; intro w' hw'; have hq := below_via hcur hw'; have hq_e0 := Ext.trans e0 hw'; have hz_f15 := f15 _ hq_e0; (try go_simp); (try rfl); done)
          try simp only [Act.put, List.setIfInBounds_toArray, List.set_cons_zero, List.set_cons_succ]
          refine wpAnyE_take (i := 14) (v := ?_) (some 64) rfl rfl (by kernel_rfl) (by kernel_rfl) (by kernel_rfl) (fun _ _ _ h => h) ?_ ?_
          rotate_left 1
          · (refine Or.inl ⟨by rfl, ?_⟩; intro w' hw'; have hq := below_via hcur hw'; have hq_e0 := Ext.trans e0 hw'; have hz_f15 := f15 _ hq_e0; (try go_simp); (try rfl); done)
          try simp only [Act.put, List.setIfInBounds_toArray, List.set_cons_zero, List.set_cons_succ]
          refine wpAnyE_take (i := 15) (v := ?_) (some 65) rfl rfl (by kernel_rfl) (by kernel_rfl) (by kernel_rfl) (fun _ _ _ h => h) ?_ ?_
          rotate_left 1
          · (refine Or.inl ⟨by rfl, ?_⟩; intro w' hw'; have hq := below_via hcur hw'; have hq_e0 := Ext.trans e0 hw'; have hz_f15 := f15 _ hq_e0; (try go_simp); (try rfl); done)
          try simp only [Act.put, List.setIfInBounds_toArray, List.set_cons_zero, List.set_cons_succ]
          refine wpAnyE_one (i := 4) rfl (by kernel_rfl) (by rfl) (fun K hK => ?_)
          go_simp
          (with_reducible refine (turned_any _ 7 7 rfl (by decide) (by decide) _).mono ?_); rintro e w1 ⟨rfl, rfl⟩
          refine hK.out _ _ (Ext.refl _) ?_
          clear hK K
          try simp only [Act.put, List.setIfInBounds_toArray, List.set_cons_zero, List.set_cons_succ]
          refine wpAnyE_one (i := 9) rfl (by kernel_rfl) (by rfl) (fun K hK => ?_)
          go_simp
          (with_reducible refine (turned_any _ 18 18 rfl (by decide) (by decide) _).mono ?_); rintro e w1 ⟨rfl, rfl⟩
          refine hK.out _ _ (Ext.refl _) ?_
          clear hK K
          try simp only [Act.put, List.setIfInBounds_toArray, List.set_cons_zero, List.set_cons_succ]
          refine wpAnyE_take (i := 10) (v := ?_) (some 60) rfl rfl (by kernel_rfl) (by kernel_rfl) (by kernel_rfl) (fun _ _ _ h => h) ?_ ?_
          rotate_left 1
          · (refine Or.inl ⟨by rfl, ?_⟩; intro w' hw'; have hq := below_via hcur hw'; have hq_e0 := Ext.trans e0 hw'; have hz_f15 := f15 _ hq_e0; (try go_simp); (try rfl); done)
          try simp only [Act.put, List.setIfInBounds_toArray, List.set_cons_zero, List.set_cons_succ]
          refine wpAnyE_take (i := 16) (v := ?_) (some 66) rfl rfl (by kernel_rfl) (by kernel_rfl) (by kernel_rfl) (fun _ _ _ h => h) ?_ ?_
          rotate_left 1
          · (refine Or.inl ⟨by rfl, ?_⟩; intro w' hw'; have hq := below_via hcur hw'; have hq_e0 := Ext.trans e0 hw'; have hz_f15 := f15 _ hq_e0; (try go_simp); (try rfl); done)
          try simp only [Act.put, List.setIfInBounds_toArray, List.set_cons_zero, List.set_cons_succ]
          refine wpAnyE_take (i := 17) (v := ?_) (some 9) rfl rfl (by kernel_rfl) (by kernel_rfl) (by kernel_rfl) (fun _ _ _ h => h) ?_ ?_
          rotate_left 1
          · (refine Or.inl ⟨by rfl, ?_⟩; intro w' hw'; have hq := below_via hcur hw'; have hq_e0 := Ext.trans e0 hw'; have hz_f15 := f15 _ hq_e0; (try go_simp); (try rfl); done)
          try simp only [Act.put, List.setIfInBounds_toArray, List.set_cons_zero, List.set_cons_succ]
          refine wpAnyE_done (by kernel_rfl) ?_ _
          go_wp2
          refine wp_region_E (by kernel_rfl) ?_
          replace hcur := below_via hcur (ext_drew _)
          replace e0 := Ext.trans e0 (ext_drew _)
          refine wpAnyE_take (i := 0) (v := ?_) (some 67) rfl rfl (by kernel_rfl) (by kernel_rfl) (by kernel_rfl) (fun _ _ _ h => h) ?_ ?_
          rotate_left 1
          · (refine Or.inl ⟨by rfl, ?_⟩; intro w' hw'; have hq := below_via hcur hw'; have hq_e0 := Ext.trans e0 hw'; have hz_f2 := f2 _ hq_e0; (try go_simp); (try rfl); done)
          try simp only [Act.put, List.setIfInBounds_toArray, List.set_cons_zero, List.set_cons_succ]
          refine wpAnyE_take (i := 1) (v := ?_) (some 68) rfl rfl (by kernel_rfl) (by kernel_rfl) (by kernel_rfl) (fun _ _ _ h => h) ?_ ?_
          rotate_left 1
          · (refine Or.inl ⟨by rfl, ?_⟩; intro w' hw'; have hq := below_via hcur hw'; have hq_e0 := Ext.trans e0 hw'; have hz_f2 := f2 _ hq_e0; (try go_simp); (try rfl); done)
          try simp only [Act.put, List.setIfInBounds_toArray, List.set_cons_zero, List.set_cons_succ]
          refine wpAnyE_take (i := 2) (v := ?_) (some 69) rfl rfl (by kernel_rfl) (by kernel_rfl) (by kernel_rfl) (fun _ _ _ h => h) ?_ ?_
          rotate_left 1
          · (refine Or.inl ⟨by rfl, ?_⟩; intro w' hw'; have hq := below_via hcur hw'; have hq_e0 := Ext.trans e0 hw'; have hz_f2 := f2 _ hq_e0; (try go_simp); (try rfl); done)
          try simp only [Act.put, List.setIfInBounds_toArray, List.set_cons_zero, List.set_cons_succ]
          refine wpAnyE_take (i := 3) (v := ?_) (some 70) rfl rfl (by kernel_rfl) (by kernel_rfl) (by kernel_rfl) (fun _ _ _ h => h) ?_ ?_
          rotate_left 1
          · (refine Or.inl ⟨by rfl, ?_⟩; intro w' hw'; have hq := below_via hcur hw'; have hq_e0 := Ext.trans e0 hw'; have hz_f2 := f2 _ hq_e0; (try go_simp); (try rfl); done)
          try simp only [Act.put, List.setIfInBounds_toArray, List.set_cons_zero, List.set_cons_succ]
          refine wpAnyE_take (i := 5) (v := ?_) (some 72) rfl rfl (by kernel_rfl) (by kernel_rfl) (by kernel_rfl) (fun _ _ _ h => h) ?_ ?_
          rotate_left 1
          · (refine Or.inl ⟨by rfl, ?_⟩; intro w' hw'; have hq := below_via hcur hw'; have hq_e0 := Ext.trans e0 hw'; have hz_f2 := f2 _ hq_e0; (try go_simp); (try rfl); done)
          try simp only [Act.put, List.setIfInBounds_toArray, List.set_cons_zero, List.set_cons_succ]
          refine wpAnyE_take (i := 6) (v := ?_) (some 73) rfl rfl (by kernel_rfl) (by kernel_rfl) (by kernel_rfl) (fun _ _ _ h => h) ?_ ?_
          rotate_left 1
          · (refine Or.inl ⟨by rfl, ?_⟩; intro w' hw'; have hq := below_via hcur hw'; have hq_e0 := Ext.trans e0 hw'; have hz_f2 := f2 _ hq_e0; (try go_simp); (try rfl); done)
          try simp only [Act.put, List.setIfInBounds_toArray, List.set_cons_zero, List.set_cons_succ]
          refine wpAnyE_take (i := 7) (v := ?_) (some 74) rfl rfl (by kernel_rfl) (by kernel_rfl) (by kernel_rfl) (fun _ _ _ h => h) ?_ ?_
          rotate_left 1
          · (refine Or.inl ⟨by rfl, ?_⟩; intro w' hw'; have hq := below_via hcur hw'; have hq_e0 := Ext.trans e0 hw'; have hz_f2 := f2 _ hq_e0; (try go_simp); (try rfl); done)
          try simp only [Act.put, List.setIfInBounds_toArray, List.set_cons_zero, List.set_cons_succ]
          refine wpAnyE_take (i := 8) (v := ?_) (some 75) rfl rfl (by kernel_rfl) (by kernel_rfl) (by kernel_rfl) (fun _ _ _ h => h) ?_ ?_
          rotate_left 1
          · (refine Or.inl ⟨by rfl, ?_⟩; intro w' hw'; have hq := below_via hcur hw'; have hq_e0 := Ext.trans e0 hw'; have hz_f2 := f2 _ hq_e0; (try go_simp); (try rfl); done)
          try simp only [Act.put, List.setIfInBounds_toArray, List.set_cons_zero, List.set_cons_succ]
          refine wpAnyE_take (i := 11) (v := ?_) (some 78) rfl rfl (by kernel_rfl) (by kernel_rfl) (by kernel_rfl) (fun _ _ _ h => h) ?_ ?_
          rotate_left 1
          · (refine Or.inl ⟨by rfl, ?_⟩; intro w' hw'; have hq := below_via hcur hw'; have hq_e0 := Ext.trans e0 hw'; have hz_f2 := f2 _ hq_e0; (try go_simp); (try rfl); done)
          try simp only [Act.put, List.setIfInBounds_toArray, List.set_cons_zero, List.set_cons_succ]
          refine wpAnyE_take (i := 12) (v := ?_) (some 79) rfl rfl (by kernel_rfl) (by kernel_rfl) (by kernel_rfl) (fun _ _ _ h => h) ?_ ?_
          rotate_left 1
          · (refine Or.inl ⟨by rfl, ?_⟩; intro w' hw'; have hq := below_via hcur hw'; have hq_e0 := Ext.trans e0 hw'; have hz_f2 := f2 _ hq_e0; (try go_simp); (try rfl); done)
          try simp only [Act.put, List.setIfInBounds_toArray, List.set_cons_zero, List.set_cons_succ]
          refine wpAnyE_take (i := 13) (v := ?_) (some 80) rfl rfl (by kernel_rfl) (by kernel_rfl) (by kernel_rfl) (fun _ _ _ h => h) ?_ ?_
          rotate_left 1
          · (refine Or.inl ⟨by rfl, ?_⟩; intro w' hw'; have hq := below_via hcur hw'; have hq_e0 := Ext.trans e0 hw'; have hz_f2 := f2 _ hq_e0; (try go_simp); (try rfl); done)
          try simp only [Act.put, List.setIfInBounds_toArray, List.set_cons_zero, List.set_cons_succ]
          refine wpAnyE_take (i := 14) (v := ?_) (some 81) rfl rfl (by kernel_rfl) (by kernel_rfl) (by kernel_rfl) (fun _ _ _ h => h) ?_ ?_
          rotate_left 1
          · (refine Or.inl ⟨by rfl, ?_⟩; intro w' hw'; have hq := below_via hcur hw'; have hq_e0 := Ext.trans e0 hw'; have hz_f2 := f2 _ hq_e0; (try go_simp); (try rfl); done)
          try simp only [Act.put, List.setIfInBounds_toArray, List.set_cons_zero, List.set_cons_succ]
          refine wpAnyE_take (i := 15) (v := ?_) (some 82) rfl rfl (by kernel_rfl) (by kernel_rfl) (by kernel_rfl) (fun _ _ _ h => h) ?_ ?_
          rotate_left 1
          · (refine Or.inl ⟨by rfl, ?_⟩; intro w' hw'; have hq := below_via hcur hw'; have hq_e0 := Ext.trans e0 hw'; have hz_f2 := f2 _ hq_e0; (try go_simp); (try rfl); done)
          try simp only [Act.put, List.setIfInBounds_toArray, List.set_cons_zero, List.set_cons_succ]
          refine wpAnyE_one (i := 4) rfl (by kernel_rfl) (by rfl) (fun K hK => ?_)
          go_simp
          (with_reducible refine (turned_any _ 17 17 rfl (by decide) (by decide) _).mono ?_); rintro e w1 ⟨rfl, rfl⟩
          refine hK.out _ _ (Ext.refl _) ?_
          clear hK K
          try simp only [Act.put, List.setIfInBounds_toArray, List.set_cons_zero, List.set_cons_succ]
          refine wpAnyE_one (i := 9) rfl (by kernel_rfl) (by rfl) (fun K hK => ?_)
          go_simp
          (with_reducible refine (turned_any _ 19 19 rfl (by decide) (by decide) _).mono ?_); rintro e w1 ⟨rfl, rfl⟩
          refine hK.out _ _ (Ext.refl _) ?_
          clear hK K
          try simp only [Act.put, List.setIfInBounds_toArray, List.set_cons_zero, List.set_cons_succ]
          refine wpAnyE_take (i := 10) (v := ?_) (some 77) rfl rfl (by kernel_rfl) (by kernel_rfl) (by kernel_rfl) (fun _ _ _ h => h) ?_ ?_
          rotate_left 1
          · (refine Or.inl ⟨by rfl, ?_⟩; intro w' hw'; have hq := below_via hcur hw'; have hq_e0 := Ext.trans e0 hw'; have hz_f2 := f2 _ hq_e0; (try go_simp); (try rfl); done)
          try simp only [Act.put, List.setIfInBounds_toArray, List.set_cons_zero, List.set_cons_succ]
          refine wpAnyE_take (i := 16) (v := ?_) (some 83) rfl rfl (by kernel_rfl) (by kernel_rfl) (by kernel_rfl) (fun _ _ _ h => h) ?_ ?_
          rotate_left 1
          · (refine Or.inl ⟨by rfl, ?_⟩; intro w' hw'; have hq := below_via hcur hw'; have hq_e0 := Ext.trans e0 hw'; have hz_f2 := f2 _ hq_e0; (try go_simp); (try rfl); done)
          try simp only [Act.put, List.setIfInBounds_toArray, List.set_cons_zero, List.set_cons_succ]
          refine wpAnyE_take (i := 17) (v := ?_) (some 10) rfl rfl (by kernel_rfl) (by kernel_rfl) (by kernel_rfl) (fun _ _ _ h => h) ?_ ?_
          rotate_left 1
          · (refine Or.inl ⟨by rfl, ?_⟩; intro w' hw'; have hq := below_via hcur hw'; have hq_e0 := Ext.trans e0 hw'; have hz_f2 := f2 _ hq_e0; (try go_simp); (try rfl); done)
          try simp only [Act.put, List.setIfInBounds_toArray, List.set_cons_zero, List.set_cons_succ]
          refine wpAnyE_done (by kernel_rfl) ?_ _
          go_wp2
          refine wp_region_F 15 (by kernel_rfl) (fun hcl => ?_)
          replace hcur := below_via hcur (ext_drew _)
          replace e0 := Ext.trans e0 (ext_drew _)
          refine wpAnyF_take (fin := 15) (i := 0) (v := ?_) hcl (some 84) rfl rfl (by kernel_rfl) (by kernel_rfl) (by kernel_rfl) (fun _ _ _ h => h) (by kernel_rfl) ?_ (fun hcl => ?_)
          rotate_left 1
          · (refine Or.inl ⟨by rfl, ?_⟩; intro w' hw'; have hq := below_via hcur hw'; have hq_e0 := Ext.trans e0 hw'; have hz_f16 := f16 _ hq_e0; have hz_f7 := f7 _ hq_e0; (try go_simp); (try rfl); done)
          try simp only [Act.put, List.setIfInBounds_toArray, List.set_cons_zero, List.set_cons_succ]
          refine wpAnyF_take (fin := 15) (i := 1) (v := ?_) hcl (some 85) rfl rfl (by kernel_rfl) (by kernel_rfl) (by kernel_rfl) (fun _ _ _ h => h) (by kernel_rfl) ?_ (fun hcl => ?_)
          rotate_left 1
          · (refine Or.inl ⟨by rfl, ?_⟩; intro w' hw'; have hq := below_via hcur hw'; have hq_e0 := Ext.trans e0 hw'; have hz_f16 := f16 _ hq_e0; have hz_f7 := f7 _ hq_e0; (try go_simp); (try rfl); done)
          try simp only [Act.put, List.setIfInBounds_toArray, List.set_cons_zero, List.set_cons_succ]
          refine wpAnyF_take (fin := 15) (i := 2) (v := ?_) hcl (some 86) rfl rfl (by kernel_rfl) (by kernel_rfl) (by kernel_rfl) (fun _ _ _ h => h) (by kernel_rfl) ?_ (fun hcl => ?_)
          rotate_left 1
          · (refine Or.inl ⟨by rfl, ?_⟩; intro w' hw'; have hq := below_via hcur hw'; have hq_e0 := Ext.trans e0 hw'; have hz_f16 := f16 _ hq_e0; have hz_f7 := f7 _ hq_e0; (try go_simp); (try rfl); done)
          try simp only [Act.put, List.setIfInBounds_toArray, List.set_cons_zero, List.set_cons_succ]
          refine wpAnyF_take (fin := 15) (i := 3) (v := ?_) hcl (some 87) rfl rfl (by kernel_rfl) (by kernel_rfl) (by kernel_rfl) (fun _ _ _ h => h) (by kernel_rfl) ?_ (fun hcl => ?_)
          rotate_left 1
          · (refine Or.inl ⟨by rfl, ?_⟩; intro w' hw'; have hq := below_via hcur hw'; have hq_e0 := Ext.trans e0 hw'; have hz_f16 := f16 _ hq_e0; have hz_f7 := f7 _ hq_e0; (try go_simp); (try rfl); done)
          try simp only [Act.put, List.setIfInBounds_toArray, List.set_cons_zero, List.set_cons_succ]
          refine wpAnyF_take (fin := 15) (i := 4) (v := ?_) hcl (some 88) rfl rfl (by kernel_rfl) (by kernel_rfl) (by kernel_rfl) (fun _ _ _ h => h) (by kernel_rfl) ?_ (fun hcl => ?_)
          rotate_left 1
          · (refine Or.inl ⟨by rfl, ?_⟩; intro w' hw'; have hq := below_via hcur hw'; have hq_e0 := Ext.trans e0 hw'; have hz_f16 := f16 _ hq_e0; have hz_f7 := f7 _ hq_e0; (try go_simp); (try rfl); done)
          try simp only [Act.put, List.setIfInBounds_toArray, List.set_cons_zero, List.set_cons_succ]
          refine wpAnyF_take (fin := 15) (i := 5) (v := ?_) hcl (some 89) rfl rfl (by kernel_rfl) (by kernel_rfl) (by kernel_rfl) (fun _ _ _ h => h) (by kernel_rfl) ?_ (fun hcl => ?_)
          rotate_left 1
          · (refine Or.inl ⟨by rfl, ?_⟩; intro w' hw'; have hq := below_via hcur hw'; have hq_e0 := Ext.trans e0 hw'; have hz_f16 := f16 _ hq_e0; have hz_f7 := f7 _ hq_e0; (try go_simp); (try rfl); done)
          try simp only [Act.put, List.setIfInBounds_toArray, List.set_cons_zero, List.set_cons_succ]
          refine wpAnyF_take (fin := 15) (i := 6) (v := ?_) hcl (some 90) rfl rfl (by kernel_rfl) (by kernel_rfl) (by kernel_rfl) (fun _ _ _ h => h) (by kernel_rfl) ?_ (fun hcl => ?_)
          rotate_left 1
          · (refine Or.inl ⟨by rfl, ?_⟩; intro w' hw'; have hq := below_via hcur hw'; have hq_e0 := Ext.trans e0 hw'; have hz_f16 := f16 _ hq_e0; have hz_f7 := f7 _ hq_e0; (try go_simp); (try rfl); done)
          try simp only [Act.put, List.setIfInBounds_toArray, List.set_cons_zero, List.set_cons_succ]
          refine wpAnyF_take (fin := 15) (i := 7) (v := ?_) hcl (some 91) rfl rfl (by kernel_rfl) (by kernel_rfl) (by kernel_rfl) (fun _ _ _ h => h) (by kernel_rfl) ?_ (fun hcl => ?_)
          rotate_left 1
          · (refine Or.inl ⟨by rfl, ?_⟩; intro w' hw'; have hq := below_via hcur hw'; have hq_e0 := Ext.trans e0 hw'; have hz_f16 := f16 _ hq_e0; have hz_f7 := f7 _ hq_e0; (try go_simp); (try rfl); done)
          try simp only [Act.put, List.setIfInBounds_toArray, List.set_cons_zero, List.set_cons_succ]
          refine wpAnyF_take (fin := 15) (i := 8) (v := ?_) hcl (some 92) rfl rfl (by kernel_rfl) (by kernel_rfl) (by kernel_rfl) (fun _ _ _ h => h) (by kernel_rfl) ?_ (fun hcl => ?_)
          rotate_left 1
          · (refine Or.inl ⟨by rfl, ?_⟩; intro w' hw'; have hq := below_via hcur hw'; have hq_e0 := Ext.trans e0 hw'; have hz_f16 := f16 _ hq_e0; have hz_f7 := f7 _ hq_e0; (try go_simp); (try rfl); done)
          try simp only [Act.put, List.setIfInBounds_toArray, List.set_cons_zero, List.set_cons_succ]
          refine wpAnyF_take (fin := 15) (i := 9) (v := ?_) hcl (some 93) rfl rfl (by kernel_rfl) (by kernel_rfl) (by kernel_rfl) (fun _ _ _ h => h) (by kernel_rfl) ?_ (fun hcl => ?_)
          rotate_left 1
          · (refine Or.inl ⟨by rfl, ?_⟩; intro w' hw'; have hq := below_via hcur hw'; have hq_e0 := Ext.trans e0 hw'; have hz_f16 := f16 _ hq_e0; have hz_f7 := f7 _ hq_e0; (try go_simp); (try rfl); done)
          try simp only [Act.put, List.setIfInBounds_toArray, List.set_cons_zero, List.set_cons_succ]
          refine wpAnyF_take (fin := 15) (i := 10) (v := ?_) hcl (some 94) rfl rfl (by kernel_rfl) (by kernel_rfl) (by kernel_rfl) (fun _ _ _ h => h) (by kernel_rfl) ?_ (fun hcl => ?_)
          rotate_left 1
          · (refine Or.inl ⟨by rfl, ?_⟩; intro w' hw'; have hq := below_via hcur hw'; have hq_e0 := Ext.trans e0 hw'; have hz_f16 := f16 _ hq_e0; have hz_f7 := f7 _ hq_e0; (try go_simp); (try rfl); done)
          try simp only [Act.put, List.setIfInBounds_toArray, List.set_cons_zero, List.set_cons_succ]
          refine wpAnyF_take (fin := 15) (i := 11) (v := ?_) hcl (some 95) rfl rfl (by kernel_rfl) (by kernel_rfl) (by kernel_rfl) (fun _ _ _ h => h) (by kernel_rfl) ?_ (fun hcl => ?_)
          rotate_left 1
          · (refine Or.inl ⟨by rfl, ?_⟩; intro w' hw'; have hq := below_via hcur hw'; have hq_e0 := Ext.trans e0 hw'; have hz_f16 := f16 _ hq_e0; have hz_f7 := f7 _ hq_e0; (try go_simp); (try rfl); done)
          try simp only [Act.put, List.setIfInBounds_toArray, List.set_cons_zero, List.set_cons_succ]
          refine wpAnyF_take (fin := 15) (i := 12) (v := ?_) hcl (some 96) rfl rfl (by kernel_rfl) (by kernel_rfl) (by kernel_rfl) (fun _ _ _ h => h) (by kernel_rfl) ?_ (fun hcl => ?_)
          rotate_left 1
          · (refine Or.inl ⟨by rfl, ?_⟩; intro w' hw'; have hq := below_via hcur hw'; have hq_e0 := Ext.trans e0 hw'; have hz_f16 := f16 _ hq_e0; have hz_f7 := f7 _ hq_e0; (try go_simp); (try rfl); done)
          try simp only [Act.put, List.setIfInBounds_toArray, List.set_cons_zero, List.set_cons_succ]
          refine wpAnyF_take (fin := 15) (i := 13) (v := ?_) hcl (some 97) rfl rfl (by kernel_rfl) (by kernel_rfl) (by kernel_rfl) (fun _ _ _ h => h) (by kernel_rfl) ?_ (fun hcl => ?_)
          rotate_left 1
          · (refine Or.inl ⟨by rfl, ?_⟩; intro w' hw'; have hq := below_via hcur hw'; have hq_e0 := Ext.trans e0 hw'; have hz_f16 := f16 _ hq_e0; have hz_f7 := f7 _ hq_e0; (try go_simp); (try rfl); done)
          try simp only [Act.put, List.setIfInBounds_toArray, List.set_cons_zero, List.set_cons_succ]
          refine wpAnyF_take (fin := 15) (i := 14) (v := ?_) hcl (some 98) rfl rfl (by kernel_rfl) (by kernel_rfl) (by kernel_rfl) (fun _ _ _ h => h) (by kernel_rfl) ?_ (fun hcl => ?_)
          rotate_left 1
          · (refine Or.inl ⟨by rfl, ?_⟩; intro w' hw'; have hq := below_via hcur hw'; have hq_e0 := Ext.trans e0 hw'; have hz_f16 := f16 _ hq_e0; have hz_f7 := f7 _ hq_e0; (try go_simp); (try rfl); done)
          try simp only [Act.put, List.setIfInBounds_toArray, List.set_cons_zero, List.set_cons_succ]
          refine wpAnyF_last (fin := 15) rfl (by kernel_rfl) (by kernel_rfl) (by rfl) (fun K hK => ?_)
          have fBc := hBk _ e0
          go_simp
          refine hK.out _ _ ?_
          clear hK K hcl
          go_wp2
          go_roundw
          case rel =>
            rw [next4r, ← hn.out]
            refine ⟨k + 1, by omega, by omega, by go_num, ?_, by first | exact (below_setCell bw (Nat.le_refl _) _).drew.drew.drew | exact (below_setCell bw (Nat.le_refl _) _)⟩
            have := hrow.set k (nextW (schedN b k))
            have e := sched_set b k h64
            rw [if_neg h16] at e
            rw [e] at this
            exact this
          case measure => simp [intOf]; omega
        -- /DEV
        · obtain rfl : k = 64 := by omega
          simp only [Nat.sub_self, List.replicate_zero, List.append_nil] at hrow
          go_wp2_with fail
          refine (rconst_any _).mono ?_
          rintro e w4 ⟨rfl, b4⟩
          have bw4 := bw.trans (b4.mono (by have := bw.size; omega))
          have hS4 := (bw4.block S (by omega)).trans hS
          have hR4 := (bw4.block R (by omega)).trans hR
          have hB4 := hrow.below b4
          have hw4 : Below w.heap.size w w4 := hwr _ bw4
          rw [show ((64 : Nat) : Int) = 64 from rfl]
          clear hrow b4 bw hwr hrd hB0 hS hR
          go_wp2
          generalize hW5 : World.alloc w4 _ = W5
          have hC : Row64 W5 w4.heap.size shaK := by rw [← hW5]; exact heap_alloc_new _ _
          have b5 : Ext w4 W5 := by rw [← hW5]; exact ext_alloc _ _
          have hS5 : Row8 W5 S s := Row8.below hS4 b5
          have hR5 : Row8 W5 R zero8 := Row8.below hR4 b5
          have hB5 : Row64 W5 B (sched b) := hB4.below b5
          have bw5 : Below w.heap.size w W5 := Ext.trans hw4 b5
          generalize w4.heap.size = C at hC ⊢
          clear hW5 b5 hS4 hR4 hB4 hw4 bw4
          have hv := fun j (hj : j < 8) w' (hw' : Ext W5 w') => ((hS5.below hw').cell hj).1
          have v0 : ∀ w', Ext W5 w' → w'.cell? ⟨S, 0, none⟩ = some (.int .u32 (c32 s.a)) := hv 0 (by omega)
          have v1 : ∀ w', Ext W5 w' → w'.cell? ⟨S, 1, none⟩ = some (.int .u32 (c32 s.b)) := hv 1 (by omega)
          have v2 : ∀ w', Ext W5 w' → w'.cell? ⟨S, 2, none⟩ = some (.int .u32 (c32 s.c)) := hv 2 (by omega)
          have v3 : ∀ w', Ext W5 w' → w'.cell? ⟨S, 3, none⟩ = some (.int .u32 (c32 s.d)) := hv 3 (by omega)
          have v4 : ∀ w', Ext W5 w' → w'.cell? ⟨S, 4, none⟩ = some (.int .u32 (c32 s.e)) := hv 4 (by omega)
          have v5 : ∀ w', Ext W5 w' → w'.cell? ⟨S, 5, none⟩ = some (.int .u32 (c32 s.f)) := hv 5 (by omega)
          have v6 : ∀ w', Ext W5 w' → w'.cell? ⟨S, 6, none⟩ = some (.int .u32 (c32 s.g)) := hv 6 (by omega)
          have v7 : ∀ w', Ext W5 w' → w'.cell? ⟨S, 7, none⟩ = some (.int .u32 (c32 s.h)) := hv 7 (by omega)
          clear hv
          have hcur : Below W5.heap.size W5 W5 := Below.refl _ _
          have e0 := Ext.refl W5
          refine wp_region_E (by kernel_rfl) ?_
          replace hcur := below_via hcur (ext_drew _)
          replace e0 := Ext.trans e0 (ext_drew _)
          refine wpAnyE_take (i := 0) (v := ?_) (some 100) rfl rfl (by kernel_rfl) (by kernel_rfl) (by kernel_rfl) (fun _ _ _ h => h) ?_ ?_
          rotate_left 1
          · (refine Or.inl ⟨by rfl, ?_⟩; intro w' hw'; have hq := below_via hcur hw'; have hq_e0 := Ext.trans e0 hw'; have hz_v0 := v0 _ hq_e0; have hz_v1 := v1 _ hq_e0; have hz_v2 := v2 _ hq_e0; have hz_v3 := v3 _ hq_e0; have hz_v4 := v4 _ hq_e0; have hz_v5 := v5 _ hq_e0; have hz_v6 := v6 _ hq_e0; have hz_v7 := v7 _ hq_e0; (try go_simp); (try rfl); done)
          try simp only [Act.put, List.setIfInBounds_toArray, List.set_cons_zero, List.set_cons_succ]
          refine wpAnyE_take (i := 1) (v := ?_) (some 101) rfl rfl (by kernel_rfl) (by kernel_rfl) (by kernel_rfl) (fun _ _ _ h => h) ?_ ?_
          rotate_left 1
          · (refine Or.inl ⟨by rfl, ?_⟩; intro w' hw'; have hq := below_via hcur hw'; have hq_e0 := Ext.trans e0 hw'; have hz_v0 := v0 _ hq_e0; have hz_v1 := v1 _ hq_e0; have hz_v2 := v2 _ hq_e0; have hz_v3 := v3 _ hq_e0; have hz_v4 := v4 _ hq_e0; have hz_v5 := v5 _ hq_e0; have hz_v6 := v6 _ hq_e0; have hz_v7 := v7 _ hq_e0; (try go_simp); (try rfl); done)
          try simp only [Act.put, List.setIfInBounds_toArray, List.set_cons_zero, List.set_cons_succ]
          refine wpAnyE_take (i := 2) (v := ?_) (some 102) rfl rfl (by kernel_rfl) (by kernel_rfl) (by kernel_rfl) (fun _ _ _ h => h) ?_ ?_
          rotate_left 1
          · (refine Or.inl ⟨by rfl, ?_⟩; intro w' hw'; have hq := below_via hcur hw'; have hq_e0 := Ext.trans e0 hw'; have hz_v0 := v0 _ hq_e0; have hz_v1 := v1 _ hq_e0; have hz_v2 := v2 _ hq_e0; have hz_v3 := v3 _ hq_e0; have hz_v4 := v4 _ hq_e0; have hz_v5 := v5 _ hq_e0; have hz_v6 := v6 _ hq_e0; have hz_v7 := v7 _ hq_e0; (try go_simp); (try rfl); done)
          try simp only [Act.put, List.setIfInBounds_toArray, List.set_cons_zero, List.set_cons_succ]
          refine wpAnyE_take (i := 3) (v := ?_) (some 103) rfl rfl (by kernel_rfl) (by kernel_rfl) (by kernel_rfl) (fun _ _ _ h => h) ?_ ?_
          rotate_left 1
          · (refine Or.inl ⟨by rfl, ?_⟩; intro w' hw'; have hq := below_via hcur hw'; have hq_e0 := Ext.trans e0 hw'; have hz_v0 := v0 _ hq_e0; have hz_v1 := v1 _ hq_e0; have hz_v2 := v2 _ hq_e0; have hz_v3 := v3 _ hq_e0; have hz_v4 := v4 _ hq_e0; have hz_v5 := v5 _ hq_e0; have hz_v6 := v6 _ hq_e0; have hz_v7 := v7 _ hq_e0; (try go_simp); (try rfl); done)
          try simp only [Act.put, List.setIfInBounds_toArray, List.set_cons_zero, List.set_cons_succ]
          refine wpAnyE_take (i := 4) (v := ?_) (some 104) rfl rfl (by kernel_rfl) (by kernel_rfl) (by kernel_rfl) (fun _ _ _ h => h) ?_ ?_
          rotate_left 1
          · (refine Or.inl ⟨by rfl, ?_⟩; intro w' hw'; have hq := below_via hcur hw'; have hq_e0 := Ext.trans e0 hw'; have hz_v0 := v0 _ hq_e0; have hz_v1 := v1 _ hq_e0; have hz_v2 := v2 _ hq_e0; have hz_v3 := v3 _ hq_e0; have hz_v4 := v4 _ hq_e0; have hz_v5 := v5 _ hq_e0; have hz_v6 := v6 _ hq_e0; have hz_v7 := v7 _ hq_e0; (try go_simp); (try rfl); done)
          try simp only [Act.put, List.setIfInBounds_toArray, List.set_cons_zero, List.set_cons_succ]
          refine wpAnyE_take (i := 5) (v := ?_) (some 105) rfl rfl (by kernel_rfl) (by kernel_rfl) (by kernel_rfl) (fun _ _ _ h => h) ?_ ?_
          rotate_left 1
          · (refine Or.inl ⟨by rfl, ?_⟩; intro w' hw'; have hq := below_via hcur hw'; have hq_e0 := Ext.trans e0 hw'; have hz_v0 := v0 _ hq_e0; have hz_v1 := v1 _ hq_e0; have hz_v2 := v2 _ hq_e0; have hz_v3 := v3 _ hq_e0; have hz_v4 := v4 _ hq_e0; have hz_v5 := v5 _ hq_e0; have hz_v6 := v6 _ hq_e0; have hz_v7 := v7 _ hq_e0; (try go_simp); (try rfl); done)
          try simp only [Act.put, List.setIfInBounds_toArray, List.set_cons_zero, List.set_cons_succ]
          refine wpAnyE_take (i := 6) (v := ?_) (some 106) rfl rfl (by kernel_rfl) (by kernel_rfl) (by kernel_rfl) (fun _ _ _ h => h) ?_ ?_
          rotate_left 1
          · (refine Or.inl ⟨by rfl, ?_⟩; intro w' hw'; have hq := below_via hcur hw'; have hq_e0 := Ext.trans e0 hw'; have hz_v0 := v0 _ hq_e0; have hz_v1 := v1 _ hq_e0; have hz_v2 := v2 _ hq_e0; have hz_v3 := v3 _ hq_e0; have hz_v4 := v4 _ hq_e0; have hz_v5 := v5 _ hq_e0; have hz_v6 := v6 _ hq_e0; have hz_v7 := v7 _ hq_e0; (try go_simp); (try rfl); done)
          try simp only [Act.put, List.setIfInBounds_toArray, List.set_cons_zero, List.set_cons_succ]
          refine wpAnyE_take (i := 7) (v := ?_) (some 107) rfl rfl (by kernel_rfl) (by kernel_rfl) (by kernel_rfl) (fun _ _ _ h => h) ?_ ?_
          rotate_left 1
          · (refine Or.inl ⟨by rfl, ?_⟩; intro w' hw'; have hq := below_via hcur hw'; have hq_e0 := Ext.trans e0 hw'; have hz_v0 := v0 _ hq_e0; have hz_v1 := v1 _ hq_e0; have hz_v2 := v2 _ hq_e0; have hz_v3 := v3 _ hq_e0; have hz_v4 := v4 _ hq_e0; have hz_v5 := v5 _ hq_e0; have hz_v6 := v6 _ hq_e0; have hz_v7 := v7 _ hq_e0; (try go_simp); (try rfl); done)
          try simp only [Act.put, List.setIfInBounds_toArray, List.set_cons_zero, List.set_cons_succ]
          refine wpAnyE_take (i := 8) (v := ?_) (some 108) rfl rfl (by kernel_rfl) (by kernel_rfl) (by kernel_rfl) (fun _ _ _ h => h) ?_ ?_
          rotate_left 1
          · (refine Or.inl ⟨by rfl, ?_⟩; intro w' hw'; have hq := below_via hcur hw'; have hq_e0 := Ext.trans e0 hw'; have hz_v0 := v0 _ hq_e0; have hz_v1 := v1 _ hq_e0; have hz_v2 := v2 _ hq_e0; have hz_v3 := v3 _ hq_e0; have hz_v4 := v4 _ hq_e0; have hz_v5 := v5 _ hq_e0; have hz_v6 := v6 _ hq_e0; have hz_v7 := v7 _ hq_e0; (try go_simp); (try rfl); done)
          try simp only [Act.put, List.setIfInBounds_toArray, List.set_cons_zero, List.set_cons_succ]
          refine wpAnyE_take (i := 9) (v := ?_) (some 109) rfl rfl (by kernel_rfl) (by kernel_rfl) (by kernel_rfl) (fun _ _ _ h => h) ?_ ?_
          rotate_left 1
          · (refine Or.inl ⟨by rfl, ?_⟩; intro w' hw'; have hq := below_via hcur hw'; have hq_e0 := Ext.trans e0 hw'; have hz_v0 := v0 _ hq_e0; have hz_v1 := v1 _ hq_e0; have hz_v2 := v2 _ hq_e0; have hz_v3 := v3 _ hq_e0; have hz_v4 := v4 _ hq_e0; have hz_v5 := v5 _ hq_e0; have hz_v6 := v6 _ hq_e0; have hz_v7 := v7 _ hq_e0; (try go_simp); (try rfl); done)
          try simp only [Act.put, List.setIfInBounds_toArray, List.set_cons_zero, List.set_cons_succ]
          refine wpAnyE_take (i := 10) (v := ?_) (some 110) rfl rfl (by kernel_rfl) (by kernel_rfl) (by kernel_rfl) (fun _ _ _ h => h) ?_ ?_
          rotate_left 1
          · (refine Or.inl ⟨by rfl, ?_⟩; intro w' hw'; have hq := below_via hcur hw'; have hq_e0 := Ext.trans e0 hw'; have hz_v0 := v0 _ hq_e0; have hz_v1 := v1 _ hq_e0; have hz_v2 := v2 _ hq_e0; have hz_v3 := v3 _ hq_e0; have hz_v4 := v4 _ hq_e0; have hz_v5 := v5 _ hq_e0; have hz_v6 := v6 _ hq_e0; have hz_v7 := v7 _ hq_e0; (try go_simp); (try rfl); done)
          try simp only [Act.put, List.setIfInBounds_toArray, List.set_cons_zero, List.set_cons_succ]
          refine wpAnyE_take (i := 11) (v := ?_) (some 111) rfl rfl (by kernel_rfl) (by kernel_rfl) (by kernel_rfl) (fun _ _ _ h => h) ?_ ?_
          rotate_left 1
          · (refine Or.inl ⟨by rfl, ?_⟩; intro w' hw'; have hq := below_via hcur hw'; have hq_e0 := Ext.trans e0 hw'; have hz_v0 := v0 _ hq_e0; have hz_v1 := v1 _ hq_e0; have hz_v2 := v2 _ hq_e0; have hz_v3 := v3 _ hq_e0; have hz_v4 := v4 _ hq_e0; have hz_v5 := v5 _ hq_e0; have hz_v6 := v6 _ hq_e0; have hz_v7 := v7 _ hq_e0; (try go_simp); (try rfl); done)
          try simp only [Act.put, List.setIfInBounds_toArray, List.set_cons_zero, List.set_cons_succ]
          refine wpAnyE_take (i := 12) (v := ?_) (some 112) rfl rfl (by kernel_rfl) (by kernel_rfl) (by kernel_rfl) (fun _ _ _ h => h) ?_ ?_
          rotate_left 1
          · (refine Or.inl ⟨by rfl, ?_⟩; intro w' hw'; have hq := below_via hcur hw'; have hq_e0 := Ext.trans e0 hw'; have hz_v0 := v0 _ hq_e0; have hz_v1 := v1 _ hq_e0; have hz_v2 := v2 _ hq_e0; have hz_v3 := v3 _ hq_e0; have hz_v4 := v4 _ hq_e0; have hz_v5 := v5 _ hq_e0; have hz_v6 := v6 _ hq_e0; have hz_v7 := v7 _ hq_e0; (try go_simp); (try rfl); done)
          try simp only [Act.put, List.setIfInBounds_toArray, List.set_cons_zero, List.set_cons_succ]
          refine wpAnyE_take (i := 13) (v := ?_) (some 113) rfl rfl (by kernel_rfl) (by kernel_rfl) (by kernel_rfl) (fun _ _ _ h => h) ?_ ?_
          rotate_left 1
          · (refine Or.inl ⟨by rfl, ?_⟩; intro w' hw'; have hq := below_via hcur hw'; have hq_e0 := Ext.trans e0 hw'; have hz_v0 := v0 _ hq_e0; have hz_v1 := v1 _ hq_e0; have hz_v2 := v2 _ hq_e0; have hz_v3 := v3 _ hq_e0; have hz_v4 := v4 _ hq_e0; have hz_v5 := v5 _ hq_e0; have hz_v6 := v6 _ hq_e0; have hz_v7 := v7 _ hq_e0; (try go_simp); (try rfl); done)
          try simp only [Act.put, List.setIfInBounds_toArray, List.set_cons_zero, List.set_cons_succ]
          refine wpAnyE_take (i := 14) (v := ?_) (some 114) rfl rfl (by kernel_rfl) (by kernel_rfl) (by kernel_rfl) (fun _ _ _ h => h) ?_ ?_
          rotate_left 1
          · (refine Or.inl ⟨by rfl, ?_⟩; intro w' hw'; have hq := below_via hcur hw'; have hq_e0 := Ext.trans e0 hw'; have hz_v0 := v0 _ hq_e0; have hz_v1 := v1 _ hq_e0; have hz_v2 := v2 _ hq_e0; have hz_v3 := v3 _ hq_e0; have hz_v4 := v4 _ hq_e0; have hz_v5 := v5 _ hq_e0; have hz_v6 := v6 _ hq_e0; have hz_v7 := v7 _ hq_e0; (try go_simp); (try rfl); done)
          try simp only [Act.put, List.setIfInBounds_toArray, List.set_cons_zero, List.set_cons_succ]
          refine wpAnyE_take (i := 15) (v := ?_) (some 115) rfl rfl (by kernel_rfl) (by kernel_rfl) (by kernel_rfl) (fun _ _ _ h => h) ?_ ?_
          rotate_left 1
          · (refine Or.inl ⟨by rfl, ?_⟩; intro w' hw'; have hq := below_via hcur hw'; have hq_e0 := Ext.trans e0 hw'; have hz_v0 := v0 _ hq_e0; have hz_v1 := v1 _ hq_e0; have hz_v2 := v2 _ hq_e0; have hz_v3 := v3 _ hq_e0; have hz_v4 := v4 _ hq_e0; have hz_v5 := v5 _ hq_e0; have hz_v6 := v6 _ hq_e0; have hz_v7 := v7 _ hq_e0; (try go_simp); (try rfl); done)
          try simp only [Act.put, List.setIfInBounds_toArray, List.set_cons_zero, List.set_cons_succ]
          refine wpAnyE_take (i := 16) (v := ?_) (some 12) rfl rfl (by kernel_rfl) (by kernel_rfl) (by kernel_rfl) (fun _ _ _ h => h) ?_ ?_
          rotate_left 1
          · (refine Or.inl ⟨by rfl, ?_⟩; intro w' hw'; have hq := below_via hcur hw'; have hq_e0 := Ext.trans e0 hw'; have hz_v0 := v0 _ hq_e0; have hz_v1 := v1 _ hq_e0; have hz_v2 := v2 _ hq_e0; have hz_v3 := v3 _ hq_e0; have hz_v4 := v4 _ hq_e0; have hz_v5 := v5 _ hq_e0; have hz_v6 := v6 _ hq_e0; have hz_v7 := v7 _ hq_e0; (try go_simp); (try rfl); done)
          try simp only [Act.put, List.setIfInBounds_toArray, List.set_cons_zero, List.set_cons_succ]
          refine wpAnyE_take (i := 17) (v := ?_) (some 13) rfl rfl (by kernel_rfl) (by kernel_rfl) (by kernel_rfl) (fun _ _ _ h => h) ?_ ?_
          rotate_left 1
          · (refine Or.inl ⟨by rfl, ?_⟩; intro w' hw'; have hq := below_via hcur hw'; have hq_e0 := Ext.trans e0 hw'; have hz_v0 := v0 _ hq_e0; have hz_v1 := v1 _ hq_e0; have hz_v2 := v2 _ hq_e0; have hz_v3 := v3 _ hq_e0; have hz_v4 := v4 _ hq_e0; have hz_v5 := v5 _ hq_e0; have hz_v6 := v6 _ hq_e0; have hz_v7 := v7 _ hq_e0; (try go_simp); (try rfl); done)
          try simp only [Act.put, List.setIfInBounds_toArray, List.set_cons_zero, List.set_cons_succ]
          refine wpAnyE_take (i := 18) (v := ?_) (some 14) rfl rfl (by kernel_rfl) (by kernel_rfl) (by kernel_rfl) (fun _ _ _ h => h) ?_ ?_
          rotate_left 1
          · (refine Or.inl ⟨by rfl, ?_⟩; intro w' hw'; have hq := below_via hcur hw'; have hq_e0 := Ext.trans e0 hw'; have hz_v0 := v0 _ hq_e0; have hz_v1 := v1 _ hq_e0; have hz_v2 := v2 _ hq_e0; have hz_v3 := v3 _ hq_e0; have hz_v4 := v4 _ hq_e0; have hz_v5 := v5 _ hq_e0; have hz_v6 := v6 _ hq_e0; have hz_v7 := v7 _ hq_e0; (try go_simp); (try rfl); done)
          try simp only [Act.put, List.setIfInBounds_toArray, List.set_cons_zero, List.set_cons_succ]
          refine wpAnyE_take (i := 19) (v := ?_) (some 15) rfl rfl (by kernel_rfl) (by kernel_rfl) (by kernel_rfl) (fun _ _ _ h => h) ?_ ?_
          rotate_left 1
          · (refine Or.inl ⟨by rfl, ?_⟩; intro w' hw'; have hq := below_via hcur hw'; have hq_e0 := Ext.trans e0 hw'; have hz_v0 := v0 _ hq_e0; have hz_v1 := v1 _ hq_e0; have hz_v2 := v2 _ hq_e0; have hz_v3 := v3 _ hq_e0; have hz_v4 := v4 _ hq_e0; have hz_v5 := v5 _ hq_e0; have hz_v6 := v6 _ hq_e0; have hz_v7 := v7 _ hq_e0; (try go_simp); (try rfl); done)
          try simp only [Act.put, List.setIfInBounds_toArray, List.set_cons_zero, List.set_cons_succ]
          refine wpAnyE_take (i := 20) (v := ?_) (some 16) rfl rfl (by kernel_rfl) (by kernel_rfl) (by kernel_rfl) (fun _ _ _ h => h) ?_ ?_
          rotate_left 1
          · (refine Or.inl ⟨by rfl, ?_⟩; intro w' hw'; have hq := below_via hcur hw'; have hq_e0 := Ext.trans e0 hw'; have hz_v0 := v0 _ hq_e0; have hz_v1 := v1 _ hq_e0; have hz_v2 := v2 _ hq_e0; have hz_v3 := v3 _ hq_e0; have hz_v4 := v4 _ hq_e0; have hz_v5 := v5 _ hq_e0; have hz_v6 := v6 _ hq_e0; have hz_v7 := v7 _ hq_e0; (try go_simp); (try rfl); done)
          try simp only [Act.put, List.setIfInBounds_toArray, List.set_cons_zero, List.set_cons_succ]
          refine wpAnyE_take (i := 21) (v := ?_) (some 17) rfl rfl (by kernel_rfl) (by kernel_rfl) (by kernel_rfl) (fun _ _ _ h => h) ?_ ?_
          rotate_left 1
          · (refine Or.inl ⟨by rfl, ?_⟩; intro w' hw'; have hq := below_via hcur hw'; have hq_e0 := Ext.trans e0 hw'; have hz_v0 := v0 _ hq_e0; have hz_v1 := v1 _ hq_e0; have hz_v2 := v2 _ hq_e0; have hz_v3 := v3 _ hq_e0; have hz_v4 := v4 _ hq_e0; have hz_v5 := v5 _ hq_e0; have hz_v6 := v6 _ hq_e0; have hz_v7 := v7 _ hq_e0; (try go_simp); (try rfl); done)
          try simp only [Act.put, List.setIfInBounds_toArray, List.set_cons_zero, List.set_cons_succ]
          refine wpAnyE_take (i := 22) (v := ?_) (some 18) rfl rfl (by kernel_rfl) (by kernel_rfl) (by kernel_rfl) (fun _ _ _ h => h) ?_ ?_
          rotate_left 1
          · (refine Or.inl ⟨by rfl, ?_⟩; intro w' hw'; have hq := below_via hcur hw'; have hq_e0 := Ext.trans e0 hw'; have hz_v0 := v0 _ hq_e0; have hz_v1 := v1 _ hq_e0; have hz_v2 := v2 _ hq_e0; have hz_v3 := v3 _ hq_e0; have hz_v4 := v4 _ hq_e0; have hz_v5 := v5 _ hq_e0; have hz_v6 := v6 _ hq_e0; have hz_v7 := v7 _ hq_e0; (try go_simp); (try rfl); done)
          try simp only [Act.put, List.setIfInBounds_toArray, List.set_cons_zero, List.set_cons_succ]
          refine wpAnyE_take (i := 23) (v := ?_) (some 19) rfl rfl (by kernel_rfl) (by kernel_rfl) (by kernel_rfl) (fun _ _ _ h => h) ?_ ?_
          rotate_left 1
          · (refine Or.inl ⟨by rfl, ?_⟩; intro w' hw'; have hq := below_via hcur hw'; have hq_e0 := Ext.trans e0 hw'; have hz_v0 := v0 _ hq_e0; have hz_v1 := v1 _ hq_e0; have hz_v2 := v2 _ hq_e0; have hz_v3 := v3 _ hq_e0; have hz_v4 := v4 _ hq_e0; have hz_v5 := v5 _ hq_e0; have hz_v6 := v6 _ hq_e0; have hz_v7 := v7 _ hq_e0; (try go_simp); (try rfl); done)
          try simp only [Act.put, List.setIfInBounds_toArray, List.set_cons_zero, List.set_cons_succ]
          refine wpAnyE_done (by kernel_rfl) ?_ _
          go_wp2
          go_loopw [12, 13, 14, 15, 16, 17, 18, 19, 20] (fun c12 c13 c14 c15 c16 c17 c18 c19 i wr => ∃ k : Nat, k ≤ 64 ∧ i = .int .i64 k ∧ c12 = .int .u32 (c32 (roundsN (sched b) s k).a) ∧ c13 = .int .u32 (c32 (roundsN (sched b) s k).b) ∧ c14 = .int .u32 (c32 (roundsN (sched b) s k).c) ∧
            c15 = .int .u32 (c32 (roundsN (sched b) s k).d) ∧ c16 = .int .u32 (c32 (roundsN (sched b) s k).e) ∧ c17 = .int .u32 (c32 (roundsN (sched b) s k).f) ∧ c18 = .int .u32 (c32 (roundsN (sched b) s k).g) ∧ c19 = .int .u32 (c32 (roundsN (sched b) s k).h) ∧ Ext W5 wr) (fun _ _ _ _ _ _ _ _ i _ => 64 - (intOf i).toNat)
          case atStart => exact ⟨0, by omega, rfl, rfl, rfl, rfl, rfl, rfl, rfl, rfl, rfl, e0⟩
          case round =>
            clear v0 v1 v2 v3 v4 v5 v6 v7 hcur e0
            obtain ⟨k, hk, rfl, rfl, rfl, rfl, rfl, rfl, rfl, rfl, rfl, bw⟩ := hrel
            by_cases h64 : k < 64
            · have hn : Hid (roundsN (sched b) s (k + 1) = rnd (roundsN (sched b) s k) (shaK.getD k 0) ((sched b).getD k 0)) := rfl
              have hW : ∀ w', Ext wr w' → w'.cell? ⟨B, k, none⟩ = some (.int .u32 (c32 ((sched b).getD k 0))) := fun w' hw' => ((hB5.below (Ext.trans bw hw')).cell (k := k) (by rw [sched_length]; omega)).1
              have hK : ∀ w', Ext wr w' → w'.cell? ⟨C, k, none⟩ = some (.int .u32 (c32 (shaK.getD k 0))) := fun w' hw' => ((hC.below (Ext.trans bw hw')).cell (k := k) (by rw [shaK_length]; omega)).1
              generalize roundsN (sched b) s k = t at hn ⊢
              generalize (sched b).getD k 0 = W at hW hn
              generalize shaK.getD k 0 = kk at hK hn
              have hcur : Below wr.heap.size wr wr := Below.refl _ _
              have e0 := Ext.refl wr
              go_wp2
              refine wp_region_E (by kernel_rfl) ?_
              replace hcur := below_via hcur (ext_drew _)
              replace e0 := Ext.trans e0 (ext_drew _)
              refine wpAnyE_take (i := 0) (v := ?_) (some 120) rfl rfl (by kernel_rfl) (by kernel_rfl) (by kernel_rfl) (fun _ _ _ h => h) ?_ ?_
              rotate_left 1
              · (refine Or.inl ⟨by rfl, ?_⟩; intro w' hw'; have hq := below_via hcur hw'; have hq_e0 := Ext.trans e0 hw'; have hz_hW := hW _ hq_e0; have hz_hK := hK _ hq_e0; (try go_simp); (try rfl); done)
              try simp only [Act.put, List.setIfInBounds_toArray, List.set_cons_zero, List.set_cons_succ]
              refine wpAnyE_take (i := 1) (v := ?_) (some 121) rfl rfl (by kernel_rfl) (by kernel_rfl) (by kernel_rfl) (fun _ _ _ h => h) ?_ ?_
              rotate_left 1
              · (refine Or.inl ⟨by rfl, ?_⟩; intro w' hw'; have hq := below_via hcur hw'; have hq_e0 := Ext.trans e0 hw'; have hz_hW := hW _ hq_e0; have hz_hK := hK _ hq_e0; (try go_simp); (try rfl); done)
              try simp only [Act.put, List.setIfInBounds_toArray, List.set_cons_zero, List.set_cons_succ]
              refine wpAnyE_take (i := 3) (v := ?_) (some 123) rfl rfl (by kernel_rfl) (by kernel_rfl) (by kernel_rfl) (fun _ _ _ h => h) ?_ ?_
              rotate_left 1
              · (refine Or.inl ⟨by rfl, ?_⟩; intro w' hw'; have hq := below_via hcur hw'; have hq_e0 := Ext.trans e0 hw'; have hz_hW := hW _ hq_e0; have hz_hK := hK _ hq_e0; (try go_simp); (try rfl); done)
              try simp only [Act.put, List.setIfInBounds_toArray, List.set_cons_zero, List.set_cons_succ]
              refine wpAnyE_take (i := 6) (v := ?_) (some 126) rfl rfl (by kernel_rfl) (by kernel_rfl) (by kernel_rfl) (fun _ _ _ h => h) ?_ ?_
              rotate_left 1
              · (refine Or.inl ⟨by rfl, ?_⟩; intro w' hw'; have hq := below_via hcur hw'; have hq_e0 := Ext.trans e0 hw'; have hz_hW := hW _ hq_e0; have hz_hK := hK _ hq_e0; (try go_simp); (try rfl); done)
              try simp only [Act.put, List.setIfInBounds_toArray, List.set_cons_zero, List.set_cons_succ]
              refine wpAnyE_take (i := 10) (v := ?_) (some 130) rfl rfl (by kernel_rfl) (by kernel_rfl) (by kernel_rfl) (fun _ _ _ h => h) ?_ ?_
              rotate_left 1
              · (refine Or.inl ⟨by rfl, ?_⟩; intro w' hw'; have hq := below_via hcur hw'; have hq_e0 := Ext.trans e0 hw'; have hz_hW := hW _ hq_e0; have hz_hK := hK _ hq_e0; (try go_simp); (try rfl); done)
              try simp only [Act.put, List.setIfInBounds_toArray, List.set_cons_zero, List.set_cons_succ]
              refine wpAnyE_take (i := 11) (v := ?_) (some 131) rfl rfl (by kernel_rfl) (by kernel_rfl) (by kernel_rfl) (fun _ _ _ h => h) ?_ ?_
              rotate_left 1
              · (refine Or.inl ⟨by rfl, ?_⟩; intro w' hw'; have hq := below_via hcur hw'; have hq_e0 := Ext.trans e0 hw'; have hz_hW := hW _ hq_e0; have hz_hK := hK _ hq_e0; (try go_simp); (try rfl); done)
              try simp only [Act.put, List.setIfInBounds_toArray, List.set_cons_zero, List.set_cons_succ]
              refine wpAnyE_take (i := 12) (v := ?_) (some 132) rfl rfl (by kernel_rfl) (by kernel_rfl) (by kernel_rfl) (fun _ _ _ h => h) ?_ ?_
              rotate_left 1
              · (refine Or.inl ⟨by rfl, ?_⟩; intro w' hw'; have hq := below_via hcur hw'; have hq_e0 := Ext.trans e0 hw'; have hz_hW := hW _ hq_e0; have hz_hK := hK _ hq_e0; (try go_simp); (try rfl); done)
              try simp only [Act.put, List.setIfInBounds_toArray, List.set_cons_zero, List.set_cons_succ]
              refine wpAnyE_take (i := 13) (v := ?_) (some 133) rfl rfl (by kernel_rfl) (by kernel_rfl) (by kernel_rfl) (fun _ _ _ h => h) ?_ ?_
              rotate_left 1
              · (refine Or.inl ⟨by rfl, ?_⟩; intro w' hw'; have hq := below_via hcur hw'; have hq_e0 := Ext.trans e0 hw'; have hz_hW := hW _ hq_e0; have hz_hK := hK _ hq_e0; (try go_simp); (try rfl); done)
              try simp only [Act.put, List.setIfInBounds_toArray, List.set_cons_zero, List.set_cons_succ]
              refine wpAnyE_take (i := 14) (v := ?_) (some 134) rfl rfl (by kernel_rfl) (by kernel_rfl) (by kernel_rfl) (fun _ _ _ h => h) ?_ ?_
              rotate_left 1
              · (refine Or.inl ⟨by rfl, ?_⟩; intro w' hw'; have hq := below_via hcur hw'; have hq_e0 := Ext.trans e0 hw'; have hz_hW := hW _ hq_e0; have hz_hK := hK _ hq_e0; (try go_simp); (try rfl); done)
              try simp only [Act.put, List.setIfInBounds_toArray, List.set_cons_zero, List.set_cons_succ]
              refine wpAnyE_take (i := 15) (v := ?_) (some 135) rfl rfl (by kernel_rfl) (by kernel_rfl) (by kernel_rfl) (fun _ _ _ h => h) ?_ ?_
              rotate_left 1
              · (refine Or.inl ⟨by rfl, ?_⟩; intro w' hw'; have hq := below_via hcur hw'; have hq_e0 := Ext.trans e0 hw'; have hz_hW := hW _ hq_e0; have hz_hK := hK _ hq_e0; (try go_simp); (try rfl); done)
              try simp only [Act.put, List.setIfInBounds_toArray, List.set_cons_zero, List.set_cons_succ]
              refine wpAnyE_take (i := 16) (v := ?_) (some 136) rfl rfl (by kernel_rfl) (by kernel_rfl) (by kernel_rfl) (fun _ _ _ h => h) ?_ ?_
              rotate_left 1
              · (refine Or.inl ⟨by rfl, ?_⟩; intro w' hw'; have hq := below_via hcur hw'; have hq_e0 := Ext.trans e0 hw'; have hz_hW := hW _ hq_e0; have hz_hK := hK _ hq_e0; (try go_simp); (try rfl); done)
              try simp only [Act.put, List.setIfInBounds_toArray, List.set_cons_zero, List.set_cons_succ]
              refine wpAnyE_take (i := 17) (v := ?_) (some 137) rfl rfl (by kernel_rfl) (by kernel_rfl) (by kernel_rfl) (fun _ _ _ h => h) ?_ ?_
              rotate_left 1
              · (refine Or.inl ⟨by rfl, ?_⟩; intro w' hw'; have hq := below_via hcur hw'; have hq_e0 := Ext.trans e0 hw'; have hz_hW := hW _ hq_e0; have hz_hK := hK _ hq_e0; (try go_simp); (try rfl); done)
              try simp only [Act.put, List.setIfInBounds_toArray, List.set_cons_zero, List.set_cons_succ]
              refine wpAnyE_take (i := 19) (v := ?_) (some 139) rfl rfl (by kernel_rfl) (by kernel_rfl) (by kernel_rfl) (fun _ _ _ h => h) ?_ ?_
              rotate_left 1
              · (refine Or.inl ⟨by rfl, ?_⟩; intro w' hw'; have hq := below_via hcur hw'; have hq_e0 := Ext.trans e0 hw'; have hz_hW := hW _ hq_e0; have hz_hK := hK _ hq_e0; (try go_simp); (try rfl); done)
              try simp only [Act.put, List.setIfInBounds_toArray, List.set_cons_zero, List.set_cons_succ]
              refine wpAnyE_take (i := 20) (v := ?_) (some 140) rfl rfl (by kernel_rfl) (by kernel_rfl) (by kernel_rfl) (fun _ _ _ h => h) ?_ ?_
              rotate_left 1
              · (refine Or.inl ⟨by rfl, ?_⟩; intro w' hw'; have hq := below_via hcur hw'; have hq_e0 := Ext.trans e0 hw'; have hz_hW := hW _ hq_e0; have hz_hK := hK _ hq_e0; (try go_simp); (try rfl); done)
              try simp only [Act.put, List.setIfInBounds_toArray, List.set_cons_zero, List.set_cons_succ]
              refine wpAnyE_take (i := 21) (v := ?_) (some 141) rfl rfl (by kernel_rfl) (by kernel_rfl) (by kernel_rfl) (fun _ _ _ h => h) ?_ ?_
              rotate_left 1
              · (refine Or.inl ⟨by rfl, ?_⟩; intro w' hw'; have hq := below_via hcur hw'; have hq_e0 := Ext.trans e0 hw'; have hz_hW := hW _ hq_e0; have hz_hK := hK _ hq_e0; (try go_simp); (try rfl); done)
              try simp only [Act.put, List.setIfInBounds_toArray, List.set_cons_zero, List.set_cons_succ]
              refine wpAnyE_take (i := 23) (v := ?_) (some 143) rfl rfl (by kernel_rfl) (by kernel_rfl) (by kernel_rfl) (fun _ _ _ h => h) ?_ ?_
              rotate_left 1
              · (refine Or.inl ⟨by rfl, ?_⟩; intro w' hw'; have hq := below_via hcur hw'; have hq_e0 := Ext.trans e0 hw'; have hz_hW := hW _ hq_e0; have hz_hK := hK _ hq_e0; (try go_simp); (try rfl); done)
              try simp only [Act.put, List.setIfInBounds_toArray, List.set_cons_zero, List.set_cons_succ]
              refine wpAnyE_take (i := 24) (v := ?_) (some 144) rfl rfl (by kernel_rfl) (by kernel_rfl) (by kernel_rfl) (fun _ _ _ h => h) ?_ ?_
              rotate_left 1
              · (refine Or.inl ⟨by rfl, ?_⟩; intro w' hw'; have hq := below_via hcur hw'; have hq_e0 := Ext.trans e0 hw'; have hz_hW := hW _ hq_e0; have hz_hK := hK _ hq_e0; (try go_simp); (try rfl); done)
              try simp only [Act.put, List.setIfInBounds_toArray, List.set_cons_zero, List.set_cons_succ]
              refine wpAnyE_take (i := 25) (v := ?_) (some 145) rfl rfl (by kernel_rfl) (by kernel_rfl) (by kernel_rfl) (fun _ _ _ h => h) ?_ ?_
              rotate_left 1
              · (refine Or.inl ⟨by rfl, ?_⟩; intro w' hw'; have hq := below_via hcur hw'; have hq_e0 := Ext.trans e0 hw'; have hz_hW := hW _ hq_e0; have hz_hK := hK _ hq_e0; (try go_simp); (try rfl); done)
              try simp only [Act.put, List.setIfInBounds_toArray, List.set_cons_zero, List.set_cons_succ]
              refine wpAnyE_one (i := 2) rfl (by kernel_rfl) (by rfl) (fun K hK => ?_)
              go_simp
              (with_reducible refine (turned_any _ 6 6 rfl (by decide) (by decide) _).mono ?_); rintro e w1 ⟨rfl, rfl⟩
              refine hK.out _ _ (Ext.refl _) ?_
              clear hK K
              try simp only [Act.put, List.setIfInBounds_toArray, List.set_cons_zero, List.set_cons_succ]
              refine wpAnyE_one (i := 4) rfl (by kernel_rfl) (by rfl) (fun K hK => ?_)
              go_simp
              (with_reducible refine (turned_any _ 11 11 rfl (by decide) (by decide) _).mono ?_); rintro e w1 ⟨rfl, rfl⟩
              refine hK.out _ _ (Ext.refl _) ?_
              clear hK K
              try simp only [Act.put, List.setIfInBounds_toArray, List.set_cons_zero, List.set_cons_succ]
              refine wpAnyE_take (i := 5) (v := ?_) (some 125) rfl rfl (by kernel_rfl) (by kernel_rfl) (by kernel_rfl) (fun _ _ _ h => h) ?_ ?_
              rotate_left 1
              · (refine Or.inl ⟨by rfl, ?_⟩; intro w' hw'; have hq := below_via hcur hw'; have hq_e0 := Ext.trans e0 hw'; have hz_hW := hW _ hq_e0; have hz_hK := hK _ hq_e0; (try go_simp); (try rfl); done)
              try simp only [Act.put, List.setIfInBounds_toArray, List.set_cons_zero, List.set_cons_succ]
              refine wpAnyE_one (i := 7) rfl (by kernel_rfl) (by rfl) (fun K hK => ?_)
              go_simp
              (with_reducible refine (turned_any _ 25 25 rfl (by decide) (by decide) _).mono ?_); rintro e w1 ⟨rfl, rfl⟩
              refine hK.out _ _ (Ext.refl _) ?_
              clear hK K
              try simp only [Act.put, List.setIfInBounds_toArray, List.set_cons_zero, List.set_cons_succ]
              refine wpAnyE_take (i := 8) (v := ?_) (some 128) rfl rfl (by kernel_rfl) (by kernel_rfl) (by kernel_rfl) (fun _ _ _ h => h) ?_ ?_
              rotate_left 1
              · (refine Or.inl ⟨by rfl, ?_⟩; intro w' hw'; have hq := below_via hcur hw'; have hq_e0 := Ext.trans e0 hw'; have hz_hW := hW _ hq_e0; have hz_hK := hK _ hq_e0; (try go_simp); (try rfl); done)
              try simp only [Act.put, List.setIfInBounds_toArray, List.set_cons_zero, List.set_cons_succ]
              refine wpAnyE_take (i := 9) (v := ?_) (some 129) rfl rfl (by kernel_rfl) (by kernel_rfl) (by kernel_rfl) (fun _ _ _ h => h) ?_ ?_
              rotate_left 1
              · (refine Or.inl ⟨by rfl, ?_⟩; intro w' hw'; have hq := below_via hcur hw'; have hq_e0 := Ext.trans e0 hw'; have hz_hW := hW _ hq_e0; have hz_hK := hK _ hq_e0; (try go_simp); (try rfl); done)
              try simp only [Act.put, List.setIfInBounds_toArray, List.set_cons_zero, List.set_cons_succ]
              refine wpAnyE_take (i := 18) (v := ?_) (some 138) rfl rfl (by kernel_rfl) (by kernel_rfl) (by kernel_rfl) (fun _ _ _ h => h) ?_ ?_
              rotate_left 1
              · (refine Or.inl ⟨by rfl, ?_⟩; intro w' hw'; have hq := below_via hcur hw'; have hq_e0 := Ext.trans e0 hw'; have hz_hW := hW _ hq_e0; have hz_hK := hK _ hq_e0; (try go_simp); (try rfl); done)
              try simp only [Act.put, List.setIfInBounds_toArray, List.set_cons_zero, List.set_cons_succ]
              refine wpAnyE_take (i := 22) (v := ?_) (some 142) rfl rfl (by kernel_rfl) (by kernel_rfl) (by kernel_rfl) (fun _ _ _ h => h) ?_ ?_
              rotate_left 1
              · (refine Or.inl ⟨by rfl, ?_⟩; intro w' hw'; have hq := below_via hcur hw'; have hq_e0 := Ext.trans e0 hw'; have hz_hW := hW _ hq_e0; have hz_hK := hK _ hq_e0; (try go_simp); (try rfl); done)
              try simp only [Act.put, List.setIfInBounds_toArray, List.set_cons_zero, List.set_cons_succ]
              refine wpAnyE_take (i := 26) (v := ?_) (some 146) rfl rfl (by kernel_rfl) (by kernel_rfl) (by kernel_rfl) (fun _ _ _ h => h) ?_ ?_
              rotate_left 1
              · (refine Or.inl ⟨by rfl, ?_⟩; intro w' hw'; have hq := below_via hcur hw'; have hq_e0 := Ext.trans e0 hw'; have hz_hW := hW _ hq_e0; have hz_hK := hK _ hq_e0; (try go_simp); (try rfl); done)
              try simp only [Act.put, List.setIfInBounds_toArray, List.set_cons_zero, List.set_cons_succ]
              refine wpAnyE_take (i := 27) (v := ?_) (some 21) rfl rfl (by kernel_rfl) (by kernel_rfl) (by kernel_rfl) (fun _ _ _ h => h) ?_ ?_
              rotate_left 1
              · (refine Or.inl ⟨by rfl, ?_⟩; intro w' hw'; have hq := below_via hcur hw'; have hq_e0 := Ext.trans e0 hw'; have hz_hW := hW _ hq_e0; have hz_hK := hK _ hq_e0; (try go_simp); (try rfl); done)
              try simp only [Act.put, List.setIfInBounds_toArray, List.set_cons_zero, List.set_cons_succ]
              refine wpAnyE_done (by kernel_rfl) ?_ _
              go_wp2_with fail
              refine (turned_any _ 2 2 rfl (by decide) (by decide) _).mono ?_; rintro e w1 ⟨rfl, rfl⟩
              go_wp2_with fail
              refine (turned_any _ 13 13 rfl (by decide) (by decide) _).mono ?_; rintro e w1 ⟨rfl, rfl⟩
              go_wp2_with fail
              refine (turned_any _ 22 22 rfl (by decide) (by decide) _).mono ?_; rintro e w1 ⟨rfl, rfl⟩
              go_wp2_with fail
              go_roundw
              case rel =>
                simp only [add32m]
                refine ⟨k + 1, by omega, by go_num, ?_, ?_, ?_, ?_, ?_, ?_, ?_, ?_, ?_⟩
                all_goals first | (rw [hn.out]; rfl) | exact bw | exact Below.drew bw | exact Below.drew (Below.drew bw)
              case measure => simp [intOf]; omega
            · obtain rfl : k = 64 := by omega
              have hbl : Hid (blockS s b = s.add (roundsN (sched b) s 64)) := rfl
              generalize roundsN (sched b) s 64 = t at hbl ⊢
              have hv := fun j (hj : j < 8) => ((Row8.below hS5 bw).cell hj).1
              have v0 : wr.cell? ⟨S, 0, none⟩ = some (.int .u32 (c32 s.a)) := hv 0 (by omega)
              have v1 : wr.cell? ⟨S, 1, none⟩ = some (.int .u32 (c32 s.b)) := hv 1 (by omega)
              have v2 : wr.cell? ⟨S, 2, none⟩ = some (.int .u32 (c32 s.c)) := hv 2 (by omega)
              have v3 : wr.cell? ⟨S, 3, none⟩ = some (.int .u32 (c32 s.d)) := hv 3 (by omega)
              have v4 : wr.cell? ⟨S, 4, none⟩ = some (.int .u32 (c32 s.e)) := hv 4 (by omega)
              have v5 : wr.cell? ⟨S, 5, none⟩ = some (.int .u32 (c32 s.f)) := hv 5 (by omega)
              have v6 : wr.cell? ⟨S, 6, none⟩ = some (.int .u32 (c32 s.g)) := hv 6 (by omega)
              have v7 : wr.cell? ⟨S, 7, none⟩ = some (.int .u32 (c32 s.h)) := hv 7 (by omega)
              have hR6 : Row8 wr R zero8 := Row8.below hR5 bw
              have bw6 := below_setRow (bw5.trans (bw.mono bw5.size)) (V := R) (by omega) (u32s (s.add t).list).toArray
              clear hv
              have w0 : IntKind.u32.wrap (c32 s.a + c32 t.a) = c32 (s.a + t.a) := w32_add s.a t.a
              have w1 : IntKind.u32.wrap (c32 s.b + c32 t.b) = c32 (s.b + t.b) := w32_add s.b t.b
              have w2 : IntKind.u32.wrap (c32 s.c + c32 t.c) = c32 (s.c + t.c) := w32_add s.c t.c
              have w3 : IntKind.u32.wrap (c32 s.d + c32 t.d) = c32 (s.d + t.d) := w32_add s.d t.d
              have w4 : IntKind.u32.wrap (c32 s.e + c32 t.e) = c32 (s.e + t.e) := w32_add s.e t.e
              have w5 : IntKind.u32.wrap (c32 s.f + c32 t.f) = c32 (s.f + t.f) := w32_add s.f t.f
              have w6 : IntKind.u32.wrap (c32 s.g + c32 t.g) = c32 (s.g + t.g) := w32_add s.g t.g
              have w7 : IntKind.u32.wrap (c32 s.h + c32 t.h) = c32 (s.h + t.h) := w32_add s.h t.h
              have hret := run_loadVar_row (P := Try.prog) (wr.setRow R (u32s (s.add t).list).toArray) R 74 74 (u32s (s.add t).list).toArray (0, 0) _ (setRow_heap wr R _ _ _ _ hR6) Try.underlying74 rfl (info49 _)
              have hinfo : (Try.prog.info? 74).map (·.size) = some (u32s (s.add t).list).toArray.size := info49 _
              have hsize : (u32s zero8.list).toArray.size = (u32s (s.add t).list).toArray.size := (size8 _).trans (size8 _).symm
              have hone : (u32s (s.add t).list).toArray.all (·.oneCell') = true := all_oneCell_toArray (u32s_one _)
              go_wp2_with (refine wpList_store_row rfl 74 _ _ rfl R (u32s (s.add t).list).toArray rfl rfl 74 _ hR6 hinfo hsize hone ?_)
              refine ret_cell (v := .agg (u32s (s.add t).list).toArray) Try.results42 rfl hret rfl ⟨?_, bw6⟩
              rw [hbl.out]
end Go.Proofs.Ytcaaeimcieooiaa

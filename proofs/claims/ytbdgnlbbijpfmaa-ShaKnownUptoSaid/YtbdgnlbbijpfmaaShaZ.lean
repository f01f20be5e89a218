/- The law ShaKnown (walk). -/
import Derived.Test.YtbdgnlbbijpfmaaShaO
set_option linter.unusedVariables false
set_option linter.unusedSimpArgs false
namespace Go.Proofs.Ytbdgnlbbijpfmaa
open Go.RowKit
attribute [local go_sem high] dg_cells guard_dg sha_length zer_length

theorem write_nil (v : Value) (w : World) : Calls Try.prog 17 #[.pointer none, v] w fun e w' => e = .returned (.tuple #[]) ∧ w = w' := by
  go_enter Try.func17, Try.ntmps17
  go_wp2_with fail
  exact ⟨rfl, .tuple #[], results_none rfl _ _ _, rfl, rfl⟩
theorem write_zero (g : Nat) (v : Value) (w : World) (h : w.cell? ⟨g, 73, none⟩ = some (.bool false)) : Calls Try.prog 17 #[.pointer (some ⟨g, 0, none⟩), v] w fun e w' => e = .returned (.tuple #[]) ∧ w = w' := by
  go_enter Try.func17, Try.ntmps17
  go_wp2_with fail
  exact ⟨rfl, .tuple #[], results_none rfl _ _ _, rfl, rfl⟩
theorem wpl_store47 {ops : Array Oper} {rest : List Oper} {o : Oper} {a : Act} {w : World} {Q : Exit → Act → World → Prop} {L M : List UInt32} {B : Nat} (hB : Row64 w B L) (hg : o.guard = none) (hL : L.length = 64) (hM : M.length = 64) (p y : Operand) (ho : o.op = .store 47 p y) (hp : a.eval p = .pointer (some ⟨B, 0, none⟩)) (hy : a.eval y = .agg (u32s M).toArray)
    (h : wpList Try.prog ops Q rest (a.put o.dst undef) (w.setRow B (u32s M).toArray)) : wpList Try.prog ops Q (o :: rest) a w :=
  wpList_plain hg fun _ hK => wp_store_row 47 p y ho B (u32s M).toArray hp hy 47 _ hB (by rw [List.size_toArray, u32s_length, hM]; kernel_rfl) (by simp [u32s_length, hL, hM]) (all_oneCell_toArray (u32s_one _)) (hK _ _ h)
theorem wpl_store49 {ops : Array Oper} {rest : List Oper} {o : Oper} {a : Act} {w : World} {Q : Exit → Act → World → Prop} {s t : S8} {B : Nat} (hB : Row8 w B s) (hg : o.guard = none) (p y : Operand) (ho : o.op = .store 49 p y) (hp : a.eval p = .pointer (some ⟨B, 0, none⟩)) (hy : a.eval y = .agg (u32s t.list).toArray)
    (h : wpList Try.prog ops Q rest (a.put o.dst undef) (w.setRow B (u32s t.list).toArray)) : wpList Try.prog ops Q (o :: rest) a w :=
  wpList_plain hg fun _ hK => wp_store_row 49 p y ho B (u32s t.list).toArray hp hy 49 _ hB (info49 _) ((size8 _).trans (size8 _).symm) (all_oneCell_toArray (u32s_one _)) (hK _ _ h)
theorem conv_const (w : World) (C : Array Value) (n c g : Nat) (hg : g = w.heap.size) : (convert 22 22 (.slice (some ⟨g, 0, none⟩) n c)).run Try.prog (w.alloc (.cells C 5)) = .ok (.slice (some ⟨g, 0, none⟩) n c) (w.alloc (.cells C 5 (C.size, C.size + 1))) := by
  subst hg; exact Lib.run_convert_bytes_const w 22 5 C n c Try.underlying22 Try.underlying5
attribute [local go_sem high] conv_const
theorem made_bs (n : Nat) : (madeCells (Value.int .u8 0).cells (n * 1)).toList = bs (List.replicate n 0) := by
  apply List.ext_getElem
  · simp [madeCells, bs]
  · intro i h1 h2
    simp [madeCells, bs, Value.cells, Nat.mod_one]
    rfl
theorem root3 (k : Nat) (hk : k < 64) (w : World) : Calls Try.prog 23 #[.int .u64 ((prs.getD k 0 : Nat) : Int), .int .i64 3] w fun e w' => e = .returned (.int .u32 (c32 (shaK.getD k 0))) ∧ Below w.heap.size w w' := by
  have hp := prs_lt ⟨k, hk⟩
  have h := root_any (prs.getD k 0) 3 w hp (by decide)
  rw [rootD_eq (by decide) hp 38 (Nat.le_refl _), roots3 ⟨k, hk⟩] at h
  exact h
theorem root2 (k : Nat) (hk : k < 8) (w : World) : Calls Try.prog 23 #[.int .u64 ((prs.getD k 0 : Nat) : Int), .int .i64 2] w fun e w' => e = .returned (.int .u32 (c32 (first8.list.getD k 0))) ∧ Below w.heap.size w w' := by
  have hp := prs_lt ⟨k, by omega⟩
  have h := root_any (prs.getD k 0) 2 w hp (by decide)
  rw [rootD_eq (by decide) hp 38 (Nat.le_refl _), roots2 ⟨k, hk⟩] at h
  exact h
set_option maxRecDepth 10000 in
set_option maxHeartbeats 8000000 in
theorem law_ShaKnown (w : World) : Calls Try.prog 8 #[] w fun e w' => e = .returned (.bool true) ∧ Below w.heap.size w w' := by
  go_enter Try.func8, Try.ntmps8
  go_wp2_with fail
  refine (rconst_any _).mono ?_; rintro e w1 ⟨rfl, b1⟩
  go_wp2_with fail
  refine (rfirst_any _).mono ?_; rintro e w2 ⟨rfl, b2⟩
  have bw2 := Ext.trans b1 b2
  clear b1 b2
  go_wp2_with ((with_reducible refine at_store ?_); refine stop_here ?_)
  unfold Stop
  generalize hW : World.alloc (World.alloc w2 _) _ = W
  obtain ⟨h1, h2, bw, z⟩ := alloc2 hW
  have rA : Row64 W w2.heap.size (List.replicate 64 0) := h1
  have rB : Row8 W (w2.heap.size + 1) ⟨0, 0, 0, 0, 0, 0, 0, 0⟩ := h2
  clear h1 h2 hW
  refine wpl_store47 rA rfl rfl rfl _ _ rfl rfl rfl ?_
  have rB1 : Row8 (W.setRow w2.heap.size (u32s shaK).toArray) (w2.heap.size + 1) ⟨0, 0, 0, 0, 0, 0, 0, 0⟩ := (heap_setRow_other W _ _ _ (by omega)).trans rB
  refine wpl_store49 rB1 rfl _ _ rfl rfl rfl ?_
  have rA2 : Row64 ((W.setRow w2.heap.size (u32s shaK).toArray).setRow (w2.heap.size + 1) (u32s first8.list).toArray) w2.heap.size shaK := (heap_setRow_other _ _ _ _ (by omega)).trans (setRow_heap W _ _ _ _ _ rA)
  have rB2 : Row8 ((W.setRow w2.heap.size (u32s shaK).toArray).setRow (w2.heap.size + 1) (u32s first8.list).toArray) (w2.heap.size + 1) first8 := setRow_heap _ _ _ _ _ _ rB1
  have bz := below_setRow (below_setRow (Below.trans bw2 (bw.mono bw2.size)) (show w.heap.size ≤ w2.heap.size from bw2.size) (u32s shaK).toArray) (show w.heap.size ≤ w2.heap.size + 1 by have := bw2.size; omega) (u32s first8.list).toArray
  generalize (W.setRow w2.heap.size (u32s shaK).toArray).setRow (w2.heap.size + 1) (u32s first8.list).toArray = W3 at *
  generalize w2.heap.size = B at *
  clear rA rB rB1 z bw
  have hk64 : shaK.length = 64 := rfl
  go_wp2_with fail
  go_loopw [3] (fun ii wr => ∃ k : Nat, k ≤ 64 ∧ ii = .int .i64 k ∧ Below W3.heap.size W3 wr) (fun ii _ => 64 - (intOf ii).toNat)
  case atStart => exact ⟨0, by omega, rfl, Below.refl _ _⟩
  case round =>
    obtain ⟨k, hk, rfl, bx⟩ := hrel
    by_cases hlt : k < 64
    · have hI : (k : Int) < 64 := by omega
      have cp := fun w' => prime_any k w' hlt
      have cr := fun w' => root3 k hlt w'
      have hc := (rA2.cell (k := k) (by omega)).1
      generalize shaK.getD k 0 = x at *
      generalize prs.getD k 0 = p at *
      have fc := fun (w' : World) (h : Below W3.heap.size W3 w') => (h.cell (World.block_lt_of_cell? _ _ hc)).trans hc
      have hcur := bx
      clear hc
      go_wp2_with fail
      refine wp_region_E (by kernel_rfl) ?_
      replace hcur := below_via hcur (ext_drew _)
      refine wpAnyE_take (i := 0) (v := ?_) (some 15) rfl rfl (by kernel_rfl) (by kernel_rfl) (by kernel_rfl) (fun _ _ _ h => h) ?_ ?_
      rotate_left 1
      · (refine Or.inl ⟨by rfl, ?_⟩; intro w' hw'; have hq := below_via hcur hw'; (try go_simp); (try rfl); done)
      try simp only [Act.put, List.setIfInBounds_toArray, List.set_cons_zero, List.set_cons_succ]
      refine wpAnyE_take (i := 3) (v := ?_) (some 18) rfl rfl (by kernel_rfl) (by kernel_rfl) (by kernel_rfl) (fun _ _ _ h => h) ?_ ?_
      rotate_left 1
      · (refine Or.inl ⟨by rfl, ?_⟩; intro w' hw'; have hq := below_via hcur hw'; (try go_simp); (try rfl); done)
      try simp only [Act.put, List.setIfInBounds_toArray, List.set_cons_zero, List.set_cons_succ]
      refine wpAnyE_take (i := 4) (v := ?_) (some 19) rfl rfl (by kernel_rfl) (by kernel_rfl) (by kernel_rfl) (fun _ _ _ h => h) ?_ ?_
      rotate_left 1
      · (refine Or.inl ⟨by rfl, ?_⟩; intro w' hw'; have hq := below_via hcur hw'; (try go_simp); (try rfl); done)
      try simp only [Act.put, List.setIfInBounds_toArray, List.set_cons_zero, List.set_cons_succ]
      refine wpAnyE_take (i := 5) (v := ?_) (some 20) rfl rfl (by kernel_rfl) (by kernel_rfl) (by kernel_rfl) (fun _ _ _ h => h) ?_ ?_
      rotate_left 1
      · (refine Or.inl ⟨by rfl, ?_⟩; intro w' hw'; have hq := below_via hcur hw'; have hcl := fc _ hq; (try go_simp); (try rfl); done)
      try simp only [Act.put, List.setIfInBounds_toArray, List.set_cons_zero, List.set_cons_succ]
      refine wpAnyE_one (i := 1) rfl (by kernel_rfl) (by rfl) (fun K hK => ?_)
      go_simp
      refine (cp _).mono ?_; rintro e w5 ⟨rfl, hb⟩
      refine hK.out _ _ hb ?_
      replace hcur := below_via hcur hb; clear hK K
      try simp only [Act.put, List.setIfInBounds_toArray, List.set_cons_zero, List.set_cons_succ]
      refine wpAnyE_one (i := 2) rfl (by kernel_rfl) (by rfl) (fun K hK => ?_)
      go_simp
      refine (cr _).mono ?_; rintro e w5 ⟨rfl, hb⟩
      refine hK.out _ _ hb ?_
      replace hcur := below_via hcur hb; clear hK K
      try simp only [Act.put, List.setIfInBounds_toArray, List.set_cons_zero, List.set_cons_succ]
      refine wpAnyE_take (i := 6) (v := ?_) (some 21) rfl rfl (by kernel_rfl) (by kernel_rfl) (by kernel_rfl) (fun _ _ _ h => h) ?_ ?_
      rotate_left 1
      · (refine Or.inl ⟨by rfl, ?_⟩; intro w' hw'; have hq := below_via hcur hw'; (try go_simp); (try rfl); done)
      try simp only [Act.put, List.setIfInBounds_toArray, List.set_cons_zero, List.set_cons_succ]
      refine wpAnyE_done (by kernel_rfl) ?_ _
      go_wp2_with fail
      go_roundw
      case rel => exact ⟨k + 1, by omega, by go_num, hcur⟩
      case measure => simp [intOf]; omega
    · have hI : ¬ (k : Int) < 64 := by omega
      generalize wr = W4 at *
      go_wp2_with fail
      go_loopw [4] (fun ii wr => ∃ k : Nat, k ≤ 8 ∧ ii = .int .i64 k ∧ Below W3.heap.size W3 wr) (fun ii _ => 8 - (intOf ii).toNat)
      case atStart => exact ⟨0, by omega, rfl, bx⟩
      case round =>
        clear bx hlt hI hk
        obtain ⟨k, hk, rfl, bx⟩ := hrel
        by_cases hlt : k < 8
        · have hI : (k : Int) < 8 := by omega
          have cp := fun w' => prime_any k w' (by omega)
          have cr := fun w' => root2 k hlt w'
          have hc := (rB2.cell (j := k) hlt).1
          generalize first8.list.getD k 0 = x at *
          generalize prs.getD k 0 = p at *
          have fc := fun (w' : World) (h : Below W3.heap.size W3 w') => (h.cell (World.block_lt_of_cell? _ _ hc)).trans hc
          have hcur := bx
          clear hc
          go_wp2_with fail
          refine wp_region_E (by kernel_rfl) ?_
          replace hcur := below_via hcur (ext_drew _)
          refine wpAnyE_take (i := 0) (v := ?_) (some 26) rfl rfl (by kernel_rfl) (by kernel_rfl) (by kernel_rfl) (fun _ _ _ h => h) ?_ ?_
          rotate_left 1
          · (refine Or.inl ⟨by rfl, ?_⟩; intro w' hw'; have hq := below_via hcur hw'; (try go_simp); (try rfl); done)
          try simp only [Act.put, List.setIfInBounds_toArray, List.set_cons_zero, List.set_cons_succ]
          refine wpAnyE_take (i := 3) (v := ?_) (some 29) rfl rfl (by kernel_rfl) (by kernel_rfl) (by kernel_rfl) (fun _ _ _ h => h) ?_ ?_
          rotate_left 1
          · (refine Or.inl ⟨by rfl, ?_⟩; intro w' hw'; have hq := below_via hcur hw'; (try go_simp); (try rfl); done)
          try simp only [Act.put, List.setIfInBounds_toArray, List.set_cons_zero, List.set_cons_succ]
          refine wpAnyE_take (i := 4) (v := ?_) (some 30) rfl rfl (by kernel_rfl) (by kernel_rfl) (by kernel_rfl) (fun _ _ _ h => h) ?_ ?_
          rotate_left 1
          · (refine Or.inl ⟨by rfl, ?_⟩; intro w' hw'; have hq := below_via hcur hw'; (try go_simp); (try rfl); done)
          try simp only [Act.put, List.setIfInBounds_toArray, List.set_cons_zero, List.set_cons_succ]
          refine wpAnyE_take (i := 5) (v := ?_) (some 31) rfl rfl (by kernel_rfl) (by kernel_rfl) (by kernel_rfl) (fun _ _ _ h => h) ?_ ?_
          rotate_left 1
          · (refine Or.inl ⟨by rfl, ?_⟩; intro w' hw'; have hq := below_via hcur hw'; have hcl := fc _ hq; (try go_simp); (try rfl); done)
          try simp only [Act.put, List.setIfInBounds_toArray, List.set_cons_zero, List.set_cons_succ]
          refine wpAnyE_one (i := 1) rfl (by kernel_rfl) (by rfl) (fun K hK => ?_)
          go_simp
          refine (cp _).mono ?_; rintro e w5 ⟨rfl, hb⟩
          refine hK.out _ _ hb ?_
          replace hcur := below_via hcur hb; clear hK K
          try simp only [Act.put, List.setIfInBounds_toArray, List.set_cons_zero, List.set_cons_succ]
          refine wpAnyE_one (i := 2) rfl (by kernel_rfl) (by rfl) (fun K hK => ?_)
          go_simp
          refine (cr _).mono ?_; rintro e w5 ⟨rfl, hb⟩
          refine hK.out _ _ hb ?_
          replace hcur := below_via hcur hb; clear hK K
          try simp only [Act.put, List.setIfInBounds_toArray, List.set_cons_zero, List.set_cons_succ]
          refine wpAnyE_take (i := 6) (v := ?_) (some 32) rfl rfl (by kernel_rfl) (by kernel_rfl) (by kernel_rfl) (fun _ _ _ h => h) ?_ ?_
          rotate_left 1
          · (refine Or.inl ⟨by rfl, ?_⟩; intro w' hw'; have hq := below_via hcur hw'; (try go_simp); (try rfl); done)
          try simp only [Act.put, List.setIfInBounds_toArray, List.set_cons_zero, List.set_cons_succ]
          refine wpAnyE_done (by kernel_rfl) ?_ _
          go_wp2_with fail
          go_roundw
          case rel => exact ⟨k + 1, by omega, by go_num, hcur⟩
          case measure => simp [intOf]; omega
        · have hI : ¬ (k : Int) < 8 := by omega
          have bw5 := Below.trans bz (bx.mono bz.size)
          clear rA2 rB2 bz bx hlt
          generalize wr = W5 at *
          go_wp2_with fail
          go_loopw [5] (fun ii wr => ∃ n : Nat, 50 ≤ n ∧ n ≤ 140 ∧ ii = .int .i64 n ∧ Below w.heap.size w wr) (fun ii _ => 140 - (intOf ii).toNat)
          case atStart => exact ⟨50, by omega, by omega, rfl, bw5⟩
          case round =>
            clear bw5 hI hk
            obtain ⟨n, hn1, hn2, rfl, bw6⟩ := hrel
            by_cases hlt : n < 140
            · have hI : (n : Int) < 140 := by omega
              obtain ⟨i8, hi, hz0, hz1, hz2⟩ := info_parts info8
              obtain ⟨wm, hmk, hom, hgm⟩ := run_makeSlice_full (P := Try.prog) wr wr.heap.size 22 5 i8 (.int .u8 0) 1 Try.underlying22 hi hz0 hz1 .i64 .i64 n (by omega) (by rw [hz2]; omega) (by unfold maxLen; omega) (Nat.le_refl _)
              rw [made_bs] at hom
              have ho : OwB wr.heap.size wm (.slice (some ⟨wr.heap.size, 0, none⟩) n n) (List.replicate n 0) := by unfold OwB; rw [List.length_replicate]; exact hom
              have bm : Below w.heap.size w wm := below_grown bw6 hgm bw6.size
              have f1 := World.ownsRow.cellAt hom (n - 1) (by omega)
              rw [bs_get (List.replicate n 0) (show n - 1 < (List.replicate n (0 : UInt8)).length by rw [List.length_replicate]; omega)] at f1
              have f2 := World.ownsRow.frozenAt hom (n - 1)
              have hset := (World.ownsRow.stored hom (n - 1) (.int .u8 (c8 1))).1
              have hsb : (bs (List.replicate n 0)).set (n - 1) (.int .u8 (c8 1)) = bs ((List.replicate n 0).set (n - 1) 1) := by simp [bs]
              rw [hsb] at hset
              have hxl : ((List.replicate n (0 : UInt8)).set (n - 1) 1).length = n := by simp
              have hs5 : SlB (wm.setCell ⟨wr.heap.size, n - 1, none⟩ (.int .u8 (c8 1))) (.slice (some ⟨wr.heap.size, 0, none⟩) n n) ((List.replicate n 0).set (n - 1) 1) := by
                have := sl_of_own hset
                unfold SlB; rw [hxl]; exact this
              have b5 := below_setCell (k := n - 1) bm (show w.heap.size ≤ wr.heap.size from bw6.size) (.int .u8 (c8 1))
              have q1 := neq_dg_self (sha ((List.replicate n 0).set (n - 1) 1)) (sha_length _)
              have wn : IntKind.i64.wrap ((n : Int) - 1) = (n : Int) - 1 := by rw [IntKind.wrap_i64]; omega
              have wt : ((n : Int) - 1).toNat = n - 1 := by omega
              have n1 : (0 : Int) ≤ (n : Int) - 1 := by omega
              have n2 : (n : Int) - 1 < n := by omega
              have n3 : (1 : Int) ≤ n := by omega
              have cs := fun w' h => shaSum_any (.slice (some ⟨wr.heap.size, 0, none⟩) n n) ((List.replicate n 0).set (n - 1) 1) w' h (by rw [hxl]; omega)
              have crs := fun w' h => rsum_any (.slice (some ⟨wr.heap.size, 0, none⟩) n n) ((List.replicate n 0).set (n - 1) 1) w' h (by rw [hxl]; omega)
              generalize (List.replicate n (0 : UInt8)).set (n - 1) 1 = xs at *
              generalize (List.replicate n (0 : UInt8)).getD (n - 1) 0 = y0 at *
              generalize wr.heap.size = g at *
              clear ho hset hsb hom hgm hi hz0 hz1 hz2 bw6 bm hxl
              replace hs5 : Hid _ := hs5
              go_wp2_with fail
              refine (cs _ hs5.out).mono ?_; rintro e w6 ⟨rfl, b6⟩
              have hs6 := SlB.below hs5.out b6
              have b7 := Below.trans b5 (b6.mono b5.size)
              clear b6
              go_wp2_with fail
              refine (crs _ hs6).mono ?_; rintro e w7 ⟨rfl, b8⟩
              have b9 := Below.trans b7 (b8.mono b7.size)
              go_wp2_with fail
              go_roundw
              case rel => exact ⟨n + 1, by omega, by omega, by go_num, b9⟩
              case measure => simp [intOf]; omega
            · have hI : ¬ (n : Int) < 140 := by omega
              have hz := zero55
              have e1 := ext_alloc wr (.cells (stCells zero8 zeros64 0 false).toArray 55 (0, 0))
              have c73 : (wr.alloc (.cells (stCells zero8 zeros64 0 false).toArray 55 (0, 0))).cell? ⟨wr.heap.size, 73, none⟩ = some (.bool false) := by
                rw [cell_of_row _ _ _ _ _ _ (heap_alloc_new wr _)]; rfl
              have c72 : (wr.alloc (.cells (stCells zero8 zeros64 0 false).toArray 55 (0, 0))).cell? ⟨wr.heap.size, 72, none⟩ = some (.int .u64 0) := by
                rw [cell_of_row _ _ _ _ _ _ (heap_alloc_new wr _)]; rfl
              go_wp2_with fail
              refine (write_nil _ _).mono ?_; rintro e w6 ⟨rfl, rfl⟩
              go_wp2_with fail
              have e2 := ext_alloc (wr.alloc (.cells (stCells zero8 zeros64 0 false).toArray 55 (0, 0))) (.cells #[.int .u8 97] 5 (1, 2))
              have e3 := ext_alloc ((wr.alloc (.cells (stCells zero8 zeros64 0 false).toArray 55 (0, 0))).alloc (.cells #[.int .u8 97] 5 (1, 2))) (.cells #[.int .u8 97] 5 (1, 2))
              have e23 := Ext.trans e2 e3
              have d73 := (e23.cell (World.block_lt_of_cell? _ _ c73)).trans c73
              have d72 := (e23.cell (World.block_lt_of_cell? _ _ c72)).trans c72
              have b8 := Below.trans bw6 ((Ext.trans e1 e23).mono bw6.size)
              generalize ((wr.alloc (.cells (stCells zero8 zeros64 0 false).toArray 55 (0, 0))).alloc (.cells #[.int .u8 97] 5 (1, 2))).alloc (.cells #[.int .u8 97] 5 (1, 2)) = W8 at *
              generalize wr.heap.size = g at *
              clear e1 e2 e3 e23 c73 c72 bw6 hz
              have q1 := eql_dg_self (sha []) (sha_length [])
              have cs0 := fun w' => shaSum_any (.slice none 0 0) [] w' (sl_nil w') (by decide)
              have cn0 := fun w' => sumSt_nil w'
              have cz0 := fun w' h => sumSt_zero g w' h
              generalize sha [] = s0 at *
              refine (write_zero g _ _ d73).mono ?_; rintro e w6 ⟨rfl, rfl⟩
              go_wp2_with fail
              refine (cn0 _).mono ?_; rintro e w9 ⟨rfl, b9⟩
              go_wp2_with fail
              refine (cs0 _).mono ?_; rintro e w10 ⟨rfl, b10⟩
              have x10 := Ext.trans b9 b10
              have d73a := (x10.cell (World.block_lt_of_cell? _ _ d73)).trans d73
              go_wp2_with fail
              refine (cz0 _ d73a).mono ?_; rintro e w11 ⟨rfl, b11⟩
              go_wp2_with fail
              refine (cs0 _).mono ?_; rintro e w12 ⟨rfl, b12⟩
              have x12 := Ext.trans x10 (Ext.trans b11 b12)
              have d73b := (x12.cell (World.block_lt_of_cell? _ _ d73)).trans d73
              have d72b := (x12.cell (World.block_lt_of_cell? _ _ d72)).trans d72
              clear d73 d72 d73a b9 b10 b11 b12 x10 cs0 cn0 cz0
              have b13 := Below.trans b8 (x12.mono b8.size)
              clear b8 x12
              go_wp2_with fail
              refine (len_nil _).mono ?_; rintro e w13 ⟨rfl, rfl⟩
              go_wp2_with fail
              refine (len_cell g 0 _ d72b).mono ?_; rintro e w14 ⟨rfl, rfl⟩
              go_wp2_with fail
              refine (copy_nil _).mono ?_; rintro e w15 ⟨rfl, rfl⟩
              go_wp2_with fail
              refine (copy_zero g _ d73b).mono ?_; rintro e w16 ⟨rfl, rfl⟩
              go_wp2_with fail
              refine (wakes_any _).mono ?_; rintro e w17 ⟨rfl, b17⟩
              go_wp2_with fail
              go_ret
              exact ⟨rfl, Below.trans b13 (b17.mono b13.size)⟩
end Go.Proofs.Ytbdgnlbbijpfmaa

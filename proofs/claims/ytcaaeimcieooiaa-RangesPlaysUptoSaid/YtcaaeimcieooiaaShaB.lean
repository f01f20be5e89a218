/- One block (walk). -/
import Derived.Test.YtcaaeimcieooiaaShaW
set_option linter.unusedVariables false
set_option linter.unusedSimpArgs false
namespace Go.Proofs.Ytcaaeimcieooiaa
open Go.RowKit
attribute [local go_sem high] i32_xor i32_and i32_or i32_not i32_add wrap_8_32 wrap_32_8

/-- A block of 64 numbers. -/
def Row64 (w : World) (B : Nat) (xs : List UInt32) : Prop := w.heap[B]? = some (.cells (u32s xs).toArray 80 (0, 0))

theorem Row64.set {w : World} {B : Nat} {xs : List UInt32} (h : Row64 w B xs) (k : Nat) (x : UInt32) : Row64 (w.setCell ⟨B, k, none⟩ (.int .u32 (c32 x))) B (xs.set k x) := by
  unfold Row64 at h ⊢
  rw [heap_setCell_same w B k _ _ _ h]
  simp [u32s, List.map_set]
theorem Row64.cell {w : World} {B : Nat} {xs : List UInt32} (h : Row64 w B xs) {k : Nat} (hk : k < xs.length) : w.cell? ⟨B, k, none⟩ = some (.int .u32 (c32 (xs.getD k 0))) ∧ w.frozen? ⟨B, k, none⟩ = false := by
  refine ⟨?_, frozen_of_row _ _ _ _ _ h⟩
  rw [cell_of_row _ _ _ _ _ _ h]
  simp [u32s, hk]
theorem Row64.below {w w' : World} {B : Nat} {xs : List UInt32} (h : Row64 w B xs) (hb : Below w.heap.size w w') : Row64 w' B xs :=
  (hb.block B (Array.getElem?_eq_some_iff.1 h).1).trans h
theorem below_setCell {w w' : World} {n B k : Nat} (h : Below n w w') (hB : n ≤ B) (v : Value) : Below n w (w'.setCell ⟨B, k, none⟩ v) :=
  ⟨h.os, h.tape, h.output, by simpa [World.setCell] using h.size, fun i hi => (Below.heap_setCell w' ⟨B, k, none⟩ v i (by show i ≠ B; omega)).trans (h.block i hi)⟩
theorem sched_set (b : List UInt8) (k : Nat) (hk : k < 64) : (schedN b k ++ List.replicate (64 - k) 0).set k (if k < 16 then word b k else nextW (schedN b k)) = schedN b (k + 1) ++ List.replicate (64 - (k + 1)) 0 := by
  have hl := schedN_length b k
  rw [List.set_append_right _ _ (by omega), hl, Nat.sub_self]
  obtain ⟨m, hm⟩ : ∃ m, 64 - k = m + 1 := ⟨63 - k, by omega⟩
  rw [hm, show 64 - (k + 1) = m by omega]
  show _ = stepW b (schedN b k) ++ _
  simp [stepW, hl, List.replicate_succ]
theorem or4 (a b c d : UInt8) : bits BinOp.or IntKind.u32 (bits BinOp.or IntKind.u32 (bits BinOp.or IntKind.u32 (c32 a.toUInt32 * 16777216 % 4294967296) (c32 b.toUInt32 * 65536 % 4294967296)) (c32 c.toUInt32 * 256 % 4294967296)) (c32 d.toUInt32) = c32 (be4 a b c d) := by
  have h1 : c32 a.toUInt32 * (16777216 : Int) % (4294967296 : Int) = c32 (a.toUInt32 <<< 24) := c32_shl _ 24 (by omega)
  have h2 : c32 b.toUInt32 * (65536 : Int) % (4294967296 : Int) = c32 (b.toUInt32 <<< 16) := c32_shl _ 16 (by omega)
  have h3 : c32 c.toUInt32 * (256 : Int) % (4294967296 : Int) = c32 (c.toUInt32 <<< 8) := c32_shl _ 8 (by omega)
  rw [h1, h2, h3, bits_or32, bits_or32, bits_or32, be4_or]
theorem bits_xor32 (x y : UInt32) : bits .xor .u32 (c32 x) (c32 y) = c32 (x ^^^ y) := by
  show (IntKind.u32.wrap ((BitVec.ofInt 32 (c32 x) ^^^ BitVec.ofInt 32 (c32 y)).toNat : Int)) = _
  rw [bv32, bv32]; exact back32 (x ^^^ y)
theorem add32m (x y : UInt32) : (c32 x + c32 y) % (4294967296 : Int) = c32 (x + y) := by rw [← w32_add, IntKind.wrap_u32']
theorem next4 (x16 x7 x15 x2 : UInt32) : ((((c32 x16 + c32 x7) % (4294967296 : Int) + bits BinOp.xor IntKind.u32 (c32 (rot x15 7 ^^^ rot x15 18)) (c32 x15 / 8)) % (4294967296 : Int) + bits BinOp.xor IntKind.u32 (c32 (rot x2 17 ^^^ rot x2 19)) (c32 x2 / 1024)) % (4294967296 : Int)) = c32 (x16 + x7 + sg0 x15 + sg1 x2) := by
  have h1 : c32 x15 / (8 : Int) = c32 (x15 >>> 3) := c32_div_two_pow x15 3 (by omega)
  have h2 : c32 x2 / (1024 : Int) = c32 (x2 >>> 10) := c32_div_two_pow x2 10 (by omega)
  rw [h1, h2, bits_xor32, bits_xor32, add32m, add32m, add32m]; rfl
/-- A block of 8 numbers. -/
def Row8 (w : World) (V : Nat) (s : S8) : Prop := w.heap[V]? = some (.cells (u32s s.list).toArray 74 (0, 0))
theorem Row8.below {w w' : World} {V : Nat} {s : S8} (h : Row8 w V s) (hb : Below w.heap.size w w') : Row8 w' V s :=
  (hb.block V (Array.getElem?_eq_some_iff.1 h).1).trans h
theorem Row8.cell {w : World} {V : Nat} {s : S8} (h : Row8 w V s) {j : Nat} (hj : j < 8) : w.cell? ⟨V, j, none⟩ = some (.int .u32 (c32 (s.list.getD j 0))) ∧ w.frozen? ⟨V, j, none⟩ = false := by
  refine ⟨?_, frozen_of_row _ _ _ _ _ h⟩
  rw [cell_of_row _ _ _ _ _ _ h]
  have : j < s.list.length := hj
  simp [u32s, this]
theorem index47 (w : World) (xs : List UInt32) (k : Nat) (hk : k < 64) (hl : xs.length = 64) : (Instr.index 80 (.agg (u32s xs).toArray) (.int .i64 (k : Int))).run Try.prog w = .ok (.int .u32 (c32 (xs.getD k 0))) w := by
  have h1 : (0 : Int) ≤ (k : Int) := by omega
  have h2 : (k : Int) < 64 := by omega
  have h3 : (u32s xs)[k]? = some (.int .u32 (c32 (xs.getD k 0))) := by
    simp [u32s, hl, hk]
  simp [Instr.index, go_sem, h1, h2, asIntOf, part]
  rw [if_pos hk, h3]
  simp
def S8.shift (t : S8) : S8 := ⟨t.a, t.a, t.b, t.c, t.d, t.e, t.f, t.g⟩
theorem copy8 {w : World} {V : Nat} {t : S8} (h : Row8 w V t) :
    (Builtin.copy_ #[83, 83] 3 #[.slice (some ⟨V, 1, none⟩) 7 7, .slice (some ⟨V, 0, none⟩) 7 8]).run Try.prog w = .ok (goInt 7) (w.setRow V (u32s t.shift.list).toArray) :=
  run_copy_row (P := Try.prog) w 83 83 3 73 V 1 7 7 ⟨V, 0, none⟩ 7 8 (u32s t.list).toArray 74 (u32s [t.a, t.b, t.c, t.d, t.e, t.f, t.g])
    Try.underlying83 (by kernel_rfl) h rfl (fun j v hj => by
      have hlt : j < 7 := (List.getElem?_eq_some_iff.1 hj).1
      rw [Addr.add_mid, Nat.zero_add, cell_of_row _ _ _ _ _ _ h, ← hj]
      match j, hlt with
      | 0, _ => rfl
      | 1, _ => rfl
      | 2, _ => rfl
      | 3, _ => rfl
      | 4, _ => rfl
      | 5, _ => rfl
      | 6, _ => rfl) (by show 1 + 7 ≤ 8; omega) (u32s_one _)
theorem Row8.setRow {w : World} {V : Nat} {t : S8} (h : Row8 w V t) (s : S8) : Row8 (w.setRow V (u32s s.list).toArray) V s := setRow_heap w V _ _ _ _ h
theorem below_setRow {w w' : World} {n V : Nat} (h : Below n w w') (hV : n ≤ V) (cs : Array Value) : Below n w (w'.setRow V cs) :=
  ⟨h.os, h.tape, h.output, by simpa using h.size, fun i hi => by rw [← h.block i hi]; simp only [World.setRow, Array.getElem?_modify]; rw [if_neg (by omega)]⟩
theorem heap_setRow_other (w : World) (V k : Nat) (cs : Array Value) (h : k ≠ V) : (w.setRow V cs).heap[k]? = w.heap[k]? := by
  simp only [World.setRow, Array.getElem?_modify]; rw [if_neg (fun e => h e.symm)]
theorem Row8.set4 {w : World} {V : Nat} {t : S8} (h : Row8 w V t) (x : UInt32) : Row8 (w.setCell ⟨V, 4, none⟩ (.int .u32 (c32 x))) V { t with e := x } := by
  unfold Row8 at h ⊢
  rw [heap_setCell_same w V 4 _ _ _ h]; rfl
theorem Row8.set0 {w : World} {V : Nat} {t : S8} (h : Row8 w V t) (x : UInt32) : Row8 (w.setCell ⟨V, 0, none⟩ (.int .u32 (c32 x))) V { t with a := x } := by
  unfold Row8 at h ⊢
  rw [heap_setCell_same w V 0 _ _ _ h]; rfl
theorem sum5 (d h a b k w : UInt32) : (c32 d + (c32 h + c32 a + c32 b + c32 k + c32 w)) % (4294967296 : Int) = c32 (d + (h + a + b + k + w)) := by
  unfold c32; simp only [UInt32.toNat_add]; omega
theorem sum7 (h a b k w y z : UInt32) : (c32 h + c32 a + c32 b + c32 k + c32 w + (c32 y + c32 z)) % (4294967296 : Int) = c32 ((h + a + b + k + w) + (y + z)) := by
  unfold c32; simp only [UInt32.toNat_add]; omega
theorem sum2 (h a : UInt32) : (c32 h + c32 a) % (4294967296 : Int) = c32 (h + a) := by
  unfold c32; simp only [UInt32.toNat_add]; omega
/-- Sums up to the k-th, old numbers behind. -/
def mixL (s t : S8) (k : Nat) : List UInt32 := (s.add t).list.take k ++ s.list.drop k
theorem mixL_length (s t : S8) (k : Nat) : (mixL s t k).length = 8 := by
  have h1 : s.list.length = 8 := rfl
  have h2 : (s.add t).list.length = 8 := rfl
  simp [mixL, h1, h2]; omega
theorem mixL_get (s t : S8) {k : Nat} (hk : k < 8) : (mixL s t k).getD k 0 = s.list.getD k 0 := by
  match k, hk with
  | 0, _ => rfl
  | 1, _ => rfl
  | 2, _ => rfl
  | 3, _ => rfl
  | 4, _ => rfl
  | 5, _ => rfl
  | 6, _ => rfl
  | 7, _ => rfl
theorem mixL_set (s t : S8) {k : Nat} (hk : k < 8) : (mixL s t k).set k (s.list.getD k 0 + t.list.getD k 0) = mixL s t (k + 1) := by
  match k, hk with
  | 0, _ => rfl
  | 1, _ => rfl
  | 2, _ => rfl
  | 3, _ => rfl
  | 4, _ => rfl
  | 5, _ => rfl
  | 6, _ => rfl
  | 7, _ => rfl
/-- The cells of a state whose first numbers are these. -/
def HeadAt (w : World) (g : Nat) (ws : List UInt32) (tail : List Value) : Prop := w.heap[g]? = some (.cells (u32s ws ++ tail).toArray 78 (0, 0))
theorem HeadAt.cell {w : World} {g : Nat} {ws : List UInt32} {tail : List Value} (h : HeadAt w g ws tail) {k : Nat} (hk : k < ws.length) : w.cell? ⟨g, k, none⟩ = some (.int .u32 (c32 (ws.getD k 0))) ∧ w.frozen? ⟨g, k, none⟩ = false := by
  refine ⟨?_, frozen_of_row _ _ _ _ _ h⟩
  rw [cell_of_row _ _ _ _ _ _ h]
  simp [u32s, hk, List.getElem?_append_left]
theorem HeadAt.set {w : World} {g : Nat} {ws : List UInt32} {tail : List Value} (h : HeadAt w g ws tail) {k : Nat} (hk : k < ws.length) (x : UInt32) : HeadAt (w.setCell ⟨g, k, none⟩ (.int .u32 (c32 x))) g (ws.set k x) tail := by
  unfold HeadAt at h ⊢
  rw [heap_setCell_same w g k _ _ _ h]
  simp only [u32s, List.map_set, List.setIfInBounds_toArray]
  rw [List.set_append_left _ _ (by simpa using hk)]
theorem HeadAt.below {w w' : World} {g : Nat} {ws : List UInt32} {tail : List Value} (h : HeadAt w g ws tail) (hb : Below w.heap.size w w') : HeadAt w' g ws tail :=
  (hb.block g (Array.getElem?_eq_some_iff.1 h).1).trans h
theorem grown_of_below {w w' : World} (h : Below w.heap.size w w') (row : Option Nat) : w.grownBy w' row := ⟨h.os, h.tape, h.output, h.size, fun k hk _ => h.block k hk⟩
theorem grown_setCell {w w' : World} {g k : Nat} (h : w.grownBy w' (some g)) (v : Value) : w.grownBy (w'.setCell ⟨g, k, none⟩ v) (some g) :=
  ⟨h.os, h.tape, h.output, by simpa [World.setCell] using h.size, fun i hi hne => (Below.heap_setCell w' ⟨g, k, none⟩ v i (by show i ≠ g; intro e; exact hne (by rw [e]))).trans (h.block i hi hne)⟩
theorem grown_drew {w w' : World} {row : Option Nat} (h : w.grownBy w' row) : w.grownBy w'.drew row := ⟨h.os, h.tape, h.output, h.size, h.block⟩
theorem stCells_head {w : World} {g : Nat} {s : S8} {rest : List UInt8} {n : Nat} {made : Bool} (h : w.heap[g]? = some (.cells (stCells s rest n made).toArray 78 (0, 0))) {j : Nat} (hj : j < 8) :
    w.cell? ⟨g, j, none⟩ = some (.int .u32 (c32 (s.list.getD j 0))) := by
  rw [cell_of_row _ _ _ _ _ _ h]
  have : j < s.list.length := hj
  simp [stCells, u32s, List.getElem?_append_left, this]
theorem turnL (x : UInt32) (n : Nat) (m : Int) (hm : m = n) (h0 : 0 < n) (hn : n < 32) (w : World) : Calls Try.prog 43 #[.int .u32 (c32 x), .int .i64 m] w fun e w' => e = .returned (.int .u32 (c32 (rot x n))) ∧ w = w' := by
  subst hm; exact turn_any x n h0 hn w

set_option maxRecDepth 20000 in
set_option maxHeartbeats 2000000 in
theorem block_any (g : Nat) (s : S8) (rest : List UInt8) (n : Nat) (v : Value) (b : List UInt8) (hb : b.length = 64) (w : World) (hr : SlB w v b) (hg : w.heap[g]? = some (.cells (stCells s rest n true).toArray 78 (0, 0))) :
    Calls Try.prog 39 #[.pointer (some ⟨g, 0, none⟩), v] w fun e w' => e = .returned (.tuple #[]) ∧ w'.heap[g]? = some (.cells (stCells (blockS s b) rest n true).toArray 78 (0, 0)) ∧ w.grownBy w' (some g) := by
  obtain ⟨A, c, rfl, hc, hcm, hA, hrr⟩ := hr
  rw [hb] at hc ⊢
  have hAd : ∃ ad, A = some ad := by
    obtain ⟨ad, e, _⟩ := RdB.cell hrr (i := 0) (by omega)
    exact ⟨ad, e⟩
  obtain ⟨ad, rfl⟩ := hAd
  clear hA
  go_enter Try.func39, Try.ntmps39
  go_wp2
  go_loopw [16] (fun i wr => ∃ k : Nat, k ≤ 64 ∧ i = .int .i64 k ∧ Row64 wr w.heap.size (schedN b k ++ List.replicate (64 - k) 0) ∧ Below w.heap.size w wr) (fun i _ => 64 - (intOf i).toNat)
  case atStart => exact ⟨0, by omega, rfl, heap_alloc_new _ _, ext_alloc _ _⟩
  case round =>
    obtain ⟨k, hk, rfl, hrow, bw⟩ := hrel
    by_cases h64 : k < 64
    ·
      -- DEV
      by_cases h16 : k < 16
      · have hcell : ∀ j, j < 64 → ∀ w', Ext wr w' → w'.cell? (ad.add j) = some (.int .u8 (c8 (b.getD j 0))) := fun j hj w' hw' => by
          obtain ⟨ad', e, h⟩ := RdB.cell ((hrr.below' bw).below' hw') (i := j) (by omega)
          cases e; exact h
        have f0 := hcell (4 * k) (by omega)
        have hcell' : ∀ j, j < 64 → 0 < j → ∀ w', Ext wr w' → w'.cell? ⟨ad.block, ad.off + j, none⟩ = some (.int .u8 (c8 (b.getD j 0))) := fun j hj h0 w' hw' => by
          have := hcell j hj w' hw'
          unfold Addr.add at this
          rwa [if_neg (by omega)] at this
        have f1 := hcell' (4 * k + 1) (by omega) (by omega)
        have f2 := hcell' (4 * k + 2) (by omega) (by omega)
        have f3 := hcell' (4 * k + 3) (by omega) (by omega)
        have i0 : (4 * (k : Int)).toNat = 4 * k := by omega
        have i1 : (4 * (k : Int) + 1).toNat = 4 * k + 1 := by omega
        have i2 : (4 * (k : Int) + 2).toNat = 4 * k + 2 := by omega
        have i3 : (4 * (k : Int) + 3).toNat = 4 * k + 3 := by omega
        have j0 : (0 : Int) ≤ 4 * (k : Int) := by omega
        have j1 : (0 : Int) ≤ 4 * (k : Int) + 1 := by omega
        have j2 : (0 : Int) ≤ 4 * (k : Int) + 2 := by omega
        have j3 : (0 : Int) ≤ 4 * (k : Int) + 3 := by omega
        have k0 : 4 * (k : Int) < 64 := by omega
        have k1 : 4 * (k : Int) + 1 < 64 := by omega
        have k2 : 4 * (k : Int) + 2 < 64 := by omega
        have k3 : 4 * (k : Int) + 3 < 64 := by omega
        have w0 : IntKind.i64.wrap (4 * (k : Int)) = 4 * k := by rw [IntKind.wrap_i64]; omega
        have w1 : IntKind.i64.wrap (4 * (k : Int) + 1) = 4 * k + 1 := by rw [IntKind.wrap_i64]; omega
        have w2 : IntKind.i64.wrap (4 * (k : Int) + 2) = 4 * k + 2 := by rw [IntKind.wrap_i64]; omega
        have w3 : IntKind.i64.wrap (4 * (k : Int) + 3) = 4 * k + 3 := by rw [IntKind.wrap_i64]; omega
        have hcur : Below wr.heap.size wr wr := Below.refl _ _
        have e0 := Ext.refl wr
        clear hcell hcell'
        have hl : (schedN b k ++ List.replicate (64 - k) 0).length = 64 := by simp [schedN_length]; omega
        have fB : ∀ w', Ext wr w' → w'.cell? ⟨w.heap.size, k, none⟩ = some (.int .u32 (c32 ((schedN b k ++ List.replicate (64 - k) 0).getD k 0))) ∧ w'.frozen? ⟨w.heap.size, k, none⟩ = false := fun w' hw' => (hrow.below hw').cell (k := k) (by omega)
        generalize (schedN b k ++ List.replicate (64 - k) 0).getD k 0 = old at fB
        go_wp2
        refine wp_region_F 35 (by kernel_rfl) (fun hcl => ?_)
        replace hcur := below_via hcur (ext_drew _)
        replace e0 := Ext.trans e0 (ext_drew _)
        refine wpAnyF_take (fin := 35) (i := 0) (v := ?_) hcl (some 21) rfl rfl (by kernel_rfl) (by kernel_rfl) (by kernel_rfl) (fun _ _ _ h => h) (by kernel_rfl) ?_ (fun hcl => ?_)
        rotate_left 1
        · (refine Or.inl ⟨by rfl, ?_⟩; intro w' hw'; have hq := below_via hcur hw'; have hq_e0 := Ext.trans e0 hw'; have hz_f0 := f0 _ hq_e0; have hz_f1 := f1 _ hq_e0; have hz_f2 := f2 _ hq_e0; have hz_f3 := f3 _ hq_e0; (try go_simp); (try rfl); done)
        try simp only [Act.put, List.setIfInBounds_toArray, List.set_cons_zero, List.set_cons_succ]
        refine wpAnyF_take (fin := 35) (i := 1) (v := ?_) hcl (some 22) rfl rfl (by kernel_rfl) (by kernel_rfl) (by kernel_rfl) (fun _ _ _ h => h) (by kernel_rfl) ?_ (fun hcl => ?_)
        rotate_left 1
        · (refine Or.inl ⟨by rfl, ?_⟩; intro w' hw'; have hq := below_via hcur hw'; have hq_e0 := Ext.trans e0 hw'; have hz_f0 := f0 _ hq_e0; have hz_f1 := f1 _ hq_e0; have hz_f2 := f2 _ hq_e0; have hz_f3 := f3 _ hq_e0; (try go_simp); (try rfl); done)
        try simp only [Act.put, List.setIfInBounds_toArray, List.set_cons_zero, List.set_cons_succ]
        refine wpAnyF_take (fin := 35) (i := 2) (v := ?_) hcl (some 23) rfl rfl (by kernel_rfl) (by kernel_rfl) (by kernel_rfl) (fun _ _ _ h => h) (by kernel_rfl) ?_ (fun hcl => ?_)
        rotate_left 1
        · (refine Or.inl ⟨by rfl, ?_⟩; intro w' hw'; have hq := below_via hcur hw'; have hq_e0 := Ext.trans e0 hw'; have hz_f0 := f0 _ hq_e0; have hz_f1 := f1 _ hq_e0; have hz_f2 := f2 _ hq_e0; have hz_f3 := f3 _ hq_e0; (try go_simp); (try rfl); done)
        try simp only [Act.put, List.setIfInBounds_toArray, List.set_cons_zero, List.set_cons_succ]
        refine wpAnyF_take (fin := 35) (i := 3) (v := ?_) hcl (some 24) rfl rfl (by kernel_rfl) (by kernel_rfl) (by kernel_rfl) (fun _ _ _ h => h) (by kernel_rfl) ?_ (fun hcl => ?_)
        rotate_left 1
        · (refine Or.inl ⟨by rfl, ?_⟩; intro w' hw'; have hq := below_via hcur hw'; have hq_e0 := Ext.trans e0 hw'; have hz_f0 := f0 _ hq_e0; have hz_f1 := f1 _ hq_e0; have hz_f2 := f2 _ hq_e0; have hz_f3 := f3 _ hq_e0; (try go_simp); (try rfl); done)
        try simp only [Act.put, List.setIfInBounds_toArray, List.set_cons_zero, List.set_cons_succ]
        refine wpAnyF_take (fin := 35) (i := 4) (v := ?_) hcl (some 25) rfl rfl (by kernel_rfl) (by kernel_rfl) (by kernel_rfl) (fun _ _ _ h => h) (by kernel_rfl) ?_ (fun hcl => ?_)
        rotate_left 1
        · (refine Or.inl ⟨by rfl, ?_⟩; intro w' hw'; have hq := below_via hcur hw'; have hq_e0 := Ext.trans e0 hw'; have hz_f0 := f0 _ hq_e0; have hz_f1 := f1 _ hq_e0; have hz_f2 := f2 _ hq_e0; have hz_f3 := f3 _ hq_e0; (try go_simp); (try rfl); done)
        try simp only [Act.put, List.setIfInBounds_toArray, List.set_cons_zero, List.set_cons_succ]
        refine wpAnyF_take (fin := 35) (i := 5) (v := ?_) hcl (some 26) rfl rfl (by kernel_rfl) (by kernel_rfl) (by kernel_rfl) (fun _ _ _ h => h) (by kernel_rfl) ?_ (fun hcl => ?_)
        rotate_left 1
        · (refine Or.inl ⟨by rfl, ?_⟩; intro w' hw'; have hq := below_via hcur hw'; have hq_e0 := Ext.trans e0 hw'; have hz_f0 := f0 _ hq_e0; have hz_f1 := f1 _ hq_e0; have hz_f2 := f2 _ hq_e0; have hz_f3 := f3 _ hq_e0; (try go_simp); (try rfl); done)
        try simp only [Act.put, List.setIfInBounds_toArray, List.set_cons_zero, List.set_cons_succ]
        refine wpAnyF_take (fin := 35) (i := 6) (v := ?_) hcl (some 27) rfl rfl (by kernel_rfl) (by kernel_rfl) (by kernel_rfl) (fun _ _ _ h => h) (by kernel_rfl) ?_ (fun hcl => ?_)
        rotate_left 1
        · (refine Or.inl ⟨by rfl, ?_⟩; intro w' hw'; have hq := below_via hcur hw'; have hq_e0 := Ext.trans e0 hw'; have hz_f0 := f0 _ hq_e0; have hz_f1 := f1 _ hq_e0; have hz_f2 := f2 _ hq_e0; have hz_f3 := f3 _ hq_e0; (try go_simp); (try rfl); done)
        try simp only [Act.put, List.setIfInBounds_toArray, List.set_cons_zero, List.set_cons_succ]
        refine wpAnyF_take (fin := 35) (i := 7) (v := ?_) hcl (some 28) rfl rfl (by kernel_rfl) (by kernel_rfl) (by kernel_rfl) (fun _ _ _ h => h) (by kernel_rfl) ?_ (fun hcl => ?_)
        rotate_left 1
        · (refine Or.inl ⟨by rfl, ?_⟩; intro w' hw'; have hq := below_via hcur hw'; have hq_e0 := Ext.trans e0 hw'; have hz_f0 := f0 _ hq_e0; have hz_f1 := f1 _ hq_e0; have hz_f2 := f2 _ hq_e0; have hz_f3 := f3 _ hq_e0; (try go_simp); (try rfl); done)
        try simp only [Act.put, List.setIfInBounds_toArray, List.set_cons_zero, List.set_cons_succ]
        refine wpAnyF_take (fin := 35) (i := 8) (v := ?_) hcl (some 29) rfl rfl (by kernel_rfl) (by kernel_rfl) (by kernel_rfl) (fun _ _ _ h => h) (by kernel_rfl) ?_ (fun hcl => ?_)
        rotate_left 1
        · (refine Or.inl ⟨by rfl, ?_⟩; intro w' hw'; have hq := below_via hcur hw'; have hq_e0 := Ext.trans e0 hw'; have hz_f0 := f0 _ hq_e0; have hz_f1 := f1 _ hq_e0; have hz_f2 := f2 _ hq_e0; have hz_f3 := f3 _ hq_e0; (try go_simp); (try rfl); done)
        try simp only [Act.put, List.setIfInBounds_toArray, List.set_cons_zero, List.set_cons_succ]
        refine wpAnyF_take (fin := 35) (i := 9) (v := ?_) hcl (some 30) rfl rfl (by kernel_rfl) (by kernel_rfl) (by kernel_rfl) (fun _ _ _ h => h) (by kernel_rfl) ?_ (fun hcl => ?_)
        rotate_left 1
        · (refine Or.inl ⟨by rfl, ?_⟩; intro w' hw'; have hq := below_via hcur hw'; have hq_e0 := Ext.trans e0 hw'; have hz_f0 := f0 _ hq_e0; have hz_f1 := f1 _ hq_e0; have hz_f2 := f2 _ hq_e0; have hz_f3 := f3 _ hq_e0; (try go_simp); (try rfl); done)
        try simp only [Act.put, List.setIfInBounds_toArray, List.set_cons_zero, List.set_cons_succ]
        refine wpAnyF_take (fin := 35) (i := 10) (v := ?_) hcl (some 31) rfl rfl (by kernel_rfl) (by kernel_rfl) (by kernel_rfl) (fun _ _ _ h => h) (by kernel_rfl) ?_ (fun hcl => ?_)
        rotate_left 1
        · (refine Or.inl ⟨by rfl, ?_⟩; intro w' hw'; have hq := below_via hcur hw'; have hq_e0 := Ext.trans e0 hw'; have hz_f0 := f0 _ hq_e0; have hz_f1 := f1 _ hq_e0; have hz_f2 := f2 _ hq_e0; have hz_f3 := f3 _ hq_e0; (try go_simp); (try rfl); done)
        try simp only [Act.put, List.setIfInBounds_toArray, List.set_cons_zero, List.set_cons_succ]
        refine wpAnyF_take (fin := 35) (i := 11) (v := ?_) hcl (some 32) rfl rfl (by kernel_rfl) (by kernel_rfl) (by kernel_rfl) (fun _ _ _ h => h) (by kernel_rfl) ?_ (fun hcl => ?_)
        rotate_left 1
        · (refine Or.inl ⟨by rfl, ?_⟩; intro w' hw'; have hq := below_via hcur hw'; have hq_e0 := Ext.trans e0 hw'; have hz_f0 := f0 _ hq_e0; have hz_f1 := f1 _ hq_e0; have hz_f2 := f2 _ hq_e0; have hz_f3 := f3 _ hq_e0; (try go_simp); (try rfl); done)
        try simp only [Act.put, List.setIfInBounds_toArray, List.set_cons_zero, List.set_cons_succ]
        refine wpAnyF_take (fin := 35) (i := 12) (v := ?_) hcl (some 33) rfl rfl (by kernel_rfl) (by kernel_rfl) (by kernel_rfl) (fun _ _ _ h => h) (by kernel_rfl) ?_ (fun hcl => ?_)
        rotate_left 1
        · (refine Or.inl ⟨by rfl, ?_⟩; intro w' hw'; have hq := below_via hcur hw'; have hq_e0 := Ext.trans e0 hw'; have hz_f0 := f0 _ hq_e0; have hz_f1 := f1 _ hq_e0; have hz_f2 := f2 _ hq_e0; have hz_f3 := f3 _ hq_e0; (try go_simp); (try rfl); done)
        try simp only [Act.put, List.setIfInBounds_toArray, List.set_cons_zero, List.set_cons_succ]
        refine wpAnyF_take (fin := 35) (i := 13) (v := ?_) hcl (some 34) rfl rfl (by kernel_rfl) (by kernel_rfl) (by kernel_rfl) (fun _ _ _ h => h) (by kernel_rfl) ?_ (fun hcl => ?_)
        rotate_left 1
        · (refine Or.inl ⟨by rfl, ?_⟩; intro w' hw'; have hq := below_via hcur hw'; have hq_e0 := Ext.trans e0 hw'; have hz_f0 := f0 _ hq_e0; have hz_f1 := f1 _ hq_e0; have hz_f2 := f2 _ hq_e0; have hz_f3 := f3 _ hq_e0; (try go_simp); (try rfl); done)
        try simp only [Act.put, List.setIfInBounds_toArray, List.set_cons_zero, List.set_cons_succ]
        refine wpAnyF_take (fin := 35) (i := 14) (v := ?_) hcl (some 35) rfl rfl (by kernel_rfl) (by kernel_rfl) (by kernel_rfl) (fun _ _ _ h => h) (by kernel_rfl) ?_ (fun hcl => ?_)
        rotate_left 1
        · (refine Or.inl ⟨by rfl, ?_⟩; intro w' hw'; have hq := below_via hcur hw'; have hq_e0 := Ext.trans e0 hw'; have hz_f0 := f0 _ hq_e0; have hz_f1 := f1 _ hq_e0; have hz_f2 := f2 _ hq_e0; have hz_f3 := f3 _ hq_e0; (try go_simp); (try rfl); done)
        try simp only [Act.put, List.setIfInBounds_toArray, List.set_cons_zero, List.set_cons_succ]
        refine wpAnyF_take (fin := 35) (i := 15) (v := ?_) hcl (some 36) rfl rfl (by kernel_rfl) (by kernel_rfl) (by kernel_rfl) (fun _ _ _ h => h) (by kernel_rfl) ?_ (fun hcl => ?_)
        rotate_left 1
        · (refine Or.inl ⟨by rfl, ?_⟩; intro w' hw'; have hq := below_via hcur hw'; have hq_e0 := Ext.trans e0 hw'; have hz_f0 := f0 _ hq_e0; have hz_f1 := f1 _ hq_e0; have hz_f2 := f2 _ hq_e0; have hz_f3 := f3 _ hq_e0; (try go_simp); (try rfl); done)
        try simp only [Act.put, List.setIfInBounds_toArray, List.set_cons_zero, List.set_cons_succ]
        refine wpAnyF_take (fin := 35) (i := 16) (v := ?_) hcl (some 37) rfl rfl (by kernel_rfl) (by kernel_rfl) (by kernel_rfl) (fun _ _ _ h => h) (by kernel_rfl) ?_ (fun hcl => ?_)
        rotate_left 1
        · (refine Or.inl ⟨by rfl, ?_⟩; intro w' hw'; have hq := below_via hcur hw'; have hq_e0 := Ext.trans e0 hw'; have hz_f0 := f0 _ hq_e0; have hz_f1 := f1 _ hq_e0; have hz_f2 := f2 _ hq_e0; have hz_f3 := f3 _ hq_e0; (try go_simp); (try rfl); done)
        try simp only [Act.put, List.setIfInBounds_toArray, List.set_cons_zero, List.set_cons_succ]
        refine wpAnyF_take (fin := 35) (i := 17) (v := ?_) hcl (some 38) rfl rfl (by kernel_rfl) (by kernel_rfl) (by kernel_rfl) (fun _ _ _ h => h) (by kernel_rfl) ?_ (fun hcl => ?_)
        rotate_left 1
        · (refine Or.inl ⟨by rfl, ?_⟩; intro w' hw'; have hq := below_via hcur hw'; have hq_e0 := Ext.trans e0 hw'; have hz_f0 := f0 _ hq_e0; have hz_f1 := f1 _ hq_e0; have hz_f2 := f2 _ hq_e0; have hz_f3 := f3 _ hq_e0; (try go_simp); (try rfl); done)
        try simp only [Act.put, List.setIfInBounds_toArray, List.set_cons_zero, List.set_cons_succ]
        refine wpAnyF_take (fin := 35) (i := 18) (v := ?_) hcl (some 39) rfl rfl (by kernel_rfl) (by kernel_rfl) (by kernel_rfl) (fun _ _ _ h => h) (by kernel_rfl) ?_ (fun hcl => ?_)
        rotate_left 1
        · (refine Or.inl ⟨by rfl, ?_⟩; intro w' hw'; have hq := below_via hcur hw'; have hq_e0 := Ext.trans e0 hw'; have hz_f0 := f0 _ hq_e0; have hz_f1 := f1 _ hq_e0; have hz_f2 := f2 _ hq_e0; have hz_f3 := f3 _ hq_e0; (try go_simp); (try rfl); done)
        try simp only [Act.put, List.setIfInBounds_toArray, List.set_cons_zero, List.set_cons_succ]
        refine wpAnyF_take (fin := 35) (i := 19) (v := ?_) hcl (some 40) rfl rfl (by kernel_rfl) (by kernel_rfl) (by kernel_rfl) (fun _ _ _ h => h) (by kernel_rfl) ?_ (fun hcl => ?_)
        rotate_left 1
        · (refine Or.inl ⟨by rfl, ?_⟩; intro w' hw'; have hq := below_via hcur hw'; have hq_e0 := Ext.trans e0 hw'; have hz_f0 := f0 _ hq_e0; have hz_f1 := f1 _ hq_e0; have hz_f2 := f2 _ hq_e0; have hz_f3 := f3 _ hq_e0; (try go_simp); (try rfl); done)
        try simp only [Act.put, List.setIfInBounds_toArray, List.set_cons_zero, List.set_cons_succ]
        refine wpAnyF_take (fin := 35) (i := 20) (v := ?_) hcl (some 41) rfl rfl (by kernel_rfl) (by kernel_rfl) (by kernel_rfl) (fun _ _ _ h => h) (by kernel_rfl) ?_ (fun hcl => ?_)
        rotate_left 1
        · (refine Or.inl ⟨by rfl, ?_⟩; intro w' hw'; have hq := below_via hcur hw'; have hq_e0 := Ext.trans e0 hw'; have hz_f0 := f0 _ hq_e0; have hz_f1 := f1 _ hq_e0; have hz_f2 := f2 _ hq_e0; have hz_f3 := f3 _ hq_e0; (try go_simp); (try rfl); done)
        try simp only [Act.put, List.setIfInBounds_toArray, List.set_cons_zero, List.set_cons_succ]
        refine wpAnyF_take (fin := 35) (i := 21) (v := ?_) hcl (some 42) rfl rfl (by kernel_rfl) (by kernel_rfl) (by kernel_rfl) (fun _ _ _ h => h) (by kernel_rfl) ?_ (fun hcl => ?_)
        rotate_left 1
        · (refine Or.inl ⟨by rfl, ?_⟩; intro w' hw'; have hq := below_via hcur hw'; have hq_e0 := Ext.trans e0 hw'; have hz_f0 := f0 _ hq_e0; have hz_f1 := f1 _ hq_e0; have hz_f2 := f2 _ hq_e0; have hz_f3 := f3 _ hq_e0; (try go_simp); (try rfl); done)
        try simp only [Act.put, List.setIfInBounds_toArray, List.set_cons_zero, List.set_cons_succ]
        refine wpAnyF_take (fin := 35) (i := 22) (v := ?_) hcl (some 43) rfl rfl (by kernel_rfl) (by kernel_rfl) (by kernel_rfl) (fun _ _ _ h => h) (by kernel_rfl) ?_ (fun hcl => ?_)
        rotate_left 1
        · (refine Or.inl ⟨by rfl, ?_⟩; intro w' hw'; have hq := below_via hcur hw'; have hq_e0 := Ext.trans e0 hw'; have hz_f0 := f0 _ hq_e0; have hz_f1 := f1 _ hq_e0; have hz_f2 := f2 _ hq_e0; have hz_f3 := f3 _ hq_e0; (try go_simp); (try rfl); done)
        try simp only [Act.put, List.setIfInBounds_toArray, List.set_cons_zero, List.set_cons_succ]
        refine wpAnyF_take (fin := 35) (i := 23) (v := ?_) hcl (some 44) rfl rfl (by kernel_rfl) (by kernel_rfl) (by kernel_rfl) (fun _ _ _ h => h) (by kernel_rfl) ?_ (fun hcl => ?_)
        rotate_left 1
        · (refine Or.inl ⟨by rfl, ?_⟩; intro w' hw'; have hq := below_via hcur hw'; have hq_e0 := Ext.trans e0 hw'; have hz_f0 := f0 _ hq_e0; have hz_f1 := f1 _ hq_e0; have hz_f2 := f2 _ hq_e0; have hz_f3 := f3 _ hq_e0; (try go_simp); (try rfl); done)
        try simp only [Act.put, List.setIfInBounds_toArray, List.set_cons_zero, List.set_cons_succ]
        refine wpAnyF_take (fin := 35) (i := 24) (v := ?_) hcl (some 45) rfl rfl (by kernel_rfl) (by kernel_rfl) (by kernel_rfl) (fun _ _ _ h => h) (by kernel_rfl) ?_ (fun hcl => ?_)
        rotate_left 1
        · (refine Or.inl ⟨by rfl, ?_⟩; intro w' hw'; have hq := below_via hcur hw'; have hq_e0 := Ext.trans e0 hw'; have hz_f0 := f0 _ hq_e0; have hz_f1 := f1 _ hq_e0; have hz_f2 := f2 _ hq_e0; have hz_f3 := f3 _ hq_e0; (try go_simp); (try rfl); done)
        try simp only [Act.put, List.setIfInBounds_toArray, List.set_cons_zero, List.set_cons_succ]
        refine wpAnyF_take (fin := 35) (i := 25) (v := ?_) hcl (some 46) rfl rfl (by kernel_rfl) (by kernel_rfl) (by kernel_rfl) (fun _ _ _ h => h) (by kernel_rfl) ?_ (fun hcl => ?_)
        rotate_left 1
        · (refine Or.inl ⟨by rfl, ?_⟩; intro w' hw'; have hq := below_via hcur hw'; have hq_e0 := Ext.trans e0 hw'; have hz_f0 := f0 _ hq_e0; have hz_f1 := f1 _ hq_e0; have hz_f2 := f2 _ hq_e0; have hz_f3 := f3 _ hq_e0; (try go_simp); (try rfl); done)
        try simp only [Act.put, List.setIfInBounds_toArray, List.set_cons_zero, List.set_cons_succ]
        refine wpAnyF_take (fin := 35) (i := 26) (v := ?_) hcl (some 47) rfl rfl (by kernel_rfl) (by kernel_rfl) (by kernel_rfl) (fun _ _ _ h => h) (by kernel_rfl) ?_ (fun hcl => ?_)
        rotate_left 1
        · (refine Or.inl ⟨by rfl, ?_⟩; intro w' hw'; have hq := below_via hcur hw'; have hq_e0 := Ext.trans e0 hw'; have hz_f0 := f0 _ hq_e0; have hz_f1 := f1 _ hq_e0; have hz_f2 := f2 _ hq_e0; have hz_f3 := f3 _ hq_e0; (try go_simp); (try rfl); done)
        try simp only [Act.put, List.setIfInBounds_toArray, List.set_cons_zero, List.set_cons_succ]
        refine wpAnyF_take (fin := 35) (i := 27) (v := ?_) hcl (some 48) rfl rfl (by kernel_rfl) (by kernel_rfl) (by kernel_rfl) (fun _ _ _ h => h) (by kernel_rfl) ?_ (fun hcl => ?_)
        rotate_left 1
        · (refine Or.inl ⟨by rfl, ?_⟩; intro w' hw'; have hq := below_via hcur hw'; have hq_e0 := Ext.trans e0 hw'; have hz_f0 := f0 _ hq_e0; have hz_f1 := f1 _ hq_e0; have hz_f2 := f2 _ hq_e0; have hz_f3 := f3 _ hq_e0; (try go_simp); (try rfl); done)
        try simp only [Act.put, List.setIfInBounds_toArray, List.set_cons_zero, List.set_cons_succ]
        refine wpAnyF_take (fin := 35) (i := 28) (v := ?_) hcl (some 49) rfl rfl (by kernel_rfl) (by kernel_rfl) (by kernel_rfl) (fun _ _ _ h => h) (by kernel_rfl) ?_ (fun hcl => ?_)
        rotate_left 1
        · (refine Or.inl ⟨by rfl, ?_⟩; intro w' hw'; have hq := below_via hcur hw'; have hq_e0 := Ext.trans e0 hw'; have hz_f0 := f0 _ hq_e0; have hz_f1 := f1 _ hq_e0; have hz_f2 := f2 _ hq_e0; have hz_f3 := f3 _ hq_e0; (try go_simp); (try rfl); done)
        try simp only [Act.put, List.setIfInBounds_toArray, List.set_cons_zero, List.set_cons_succ]
        refine wpAnyF_take (fin := 35) (i := 29) (v := ?_) hcl (some 50) rfl rfl (by kernel_rfl) (by kernel_rfl) (by kernel_rfl) (fun _ _ _ h => h) (by kernel_rfl) ?_ (fun hcl => ?_)
        rotate_left 1
        · (refine Or.inl ⟨by rfl, ?_⟩; intro w' hw'; have hq := below_via hcur hw'; have hq_e0 := Ext.trans e0 hw'; have hz_f0 := f0 _ hq_e0; have hz_f1 := f1 _ hq_e0; have hz_f2 := f2 _ hq_e0; have hz_f3 := f3 _ hq_e0; (try go_simp); (try rfl); done)
        try simp only [Act.put, List.setIfInBounds_toArray, List.set_cons_zero, List.set_cons_succ]
        refine wpAnyF_take (fin := 35) (i := 30) (v := ?_) hcl (some 51) rfl rfl (by kernel_rfl) (by kernel_rfl) (by kernel_rfl) (fun _ _ _ h => h) (by kernel_rfl) ?_ (fun hcl => ?_)
        rotate_left 1
        · (refine Or.inl ⟨by rfl, ?_⟩; intro w' hw'; have hq := below_via hcur hw'; have hq_e0 := Ext.trans e0 hw'; have hz_f0 := f0 _ hq_e0; have hz_f1 := f1 _ hq_e0; have hz_f2 := f2 _ hq_e0; have hz_f3 := f3 _ hq_e0; (try go_simp); (try rfl); done)
        try simp only [Act.put, List.setIfInBounds_toArray, List.set_cons_zero, List.set_cons_succ]
        refine wpAnyF_take (fin := 35) (i := 31) (v := ?_) hcl (some 52) rfl rfl (by kernel_rfl) (by kernel_rfl) (by kernel_rfl) (fun _ _ _ h => h) (by kernel_rfl) ?_ (fun hcl => ?_)
        rotate_left 1
        · (refine Or.inl ⟨by rfl, ?_⟩; intro w' hw'; have hq := below_via hcur hw'; have hq_e0 := Ext.trans e0 hw'; have hz_f0 := f0 _ hq_e0; have hz_f1 := f1 _ hq_e0; have hz_f2 := f2 _ hq_e0; have hz_f3 := f3 _ hq_e0; (try go_simp); (try rfl); done)
        try simp only [Act.put, List.setIfInBounds_toArray, List.set_cons_zero, List.set_cons_succ]
        refine wpAnyF_take (fin := 35) (i := 32) (v := ?_) hcl (some 53) rfl rfl (by kernel_rfl) (by kernel_rfl) (by kernel_rfl) (fun _ _ _ h => h) (by kernel_rfl) ?_ (fun hcl => ?_)
        rotate_left 1
        · (refine Or.inl ⟨by rfl, ?_⟩; intro w' hw'; have hq := below_via hcur hw'; have hq_e0 := Ext.trans e0 hw'; have hz_f0 := f0 _ hq_e0; have hz_f1 := f1 _ hq_e0; have hz_f2 := f2 _ hq_e0; have hz_f3 := f3 _ hq_e0; (try go_simp); (try rfl); done)
        try simp only [Act.put, List.setIfInBounds_toArray, List.set_cons_zero, List.set_cons_succ]
        refine wpAnyF_take (fin := 35) (i := 33) (v := ?_) hcl (some 54) rfl rfl (by kernel_rfl) (by kernel_rfl) (by kernel_rfl) (fun _ _ _ h => h) (by kernel_rfl) ?_ (fun hcl => ?_)
        rotate_left 1
        · (refine Or.inl ⟨by rfl, ?_⟩; intro w' hw'; have hq := below_via hcur hw'; have hq_e0 := Ext.trans e0 hw'; have hz_f0 := f0 _ hq_e0; have hz_f1 := f1 _ hq_e0; have hz_f2 := f2 _ hq_e0; have hz_f3 := f3 _ hq_e0; (try go_simp); (try rfl); done)
        try simp only [Act.put, List.setIfInBounds_toArray, List.set_cons_zero, List.set_cons_succ]
        refine wpAnyF_take (fin := 35) (i := 34) (v := ?_) hcl (some 55) rfl rfl (by kernel_rfl) (by kernel_rfl) (by kernel_rfl) (fun _ _ _ h => h) (by kernel_rfl) ?_ (fun hcl => ?_)
        rotate_left 1
        · (refine Or.inl ⟨by rfl, ?_⟩; intro w' hw'; have hq := below_via hcur hw'; have hq_e0 := Ext.trans e0 hw'; have hz_f0 := f0 _ hq_e0; have hz_f1 := f1 _ hq_e0; have hz_f2 := f2 _ hq_e0; have hz_f3 := f3 _ hq_e0; (try go_simp); (try rfl); done)
        try simp only [Act.put, List.setIfInBounds_toArray, List.set_cons_zero, List.set_cons_succ]
        refine wpAnyF_last (fin := 35) rfl (by kernel_rfl) (by kernel_rfl) (by rfl) (fun K hK => ?_)
        have fBc := fB _ e0
        go_simp
        refine hK.out _ _ ?_
        clear hK K hcl
        go_wp2
        go_roundw
        case rel =>
          rw [or4]
          refine ⟨k + 1, by omega, by go_num, ?_, (below_setCell bw (Nat.le_refl _) _).drew⟩
          have := hrow.set k (word b k)
          have e := sched_set b k h64
          rw [if_pos h16] at e
          rw [e] at this
          exact this
        case measure => simp [intOf]; omega
      · have hl : (schedN b k ++ List.replicate (64 - k) 0).length = 64 := by simp [schedN_length]; omega
        have hcell : ∀ j, j < k → ∀ w', Ext wr w' → w'.cell? ⟨w.heap.size, j, none⟩ = some (.int .u32 (c32 ((schedN b k).getD j 0))) := fun j hj w' hw' => by
          have := ((hrow.below hw').cell (k := j) (by omega)).1
          rw [this]
          simp [List.getElem?_append_left, schedN_length, hj]
        have hB : ∀ w', Ext wr w' → w'.cell? ⟨w.heap.size, k, none⟩ = some (.int .u32 (c32 ((schedN b k ++ List.replicate (64 - k) 0).getD k 0))) ∧ w'.frozen? ⟨w.heap.size, k, none⟩ = false := fun w' hw' => (hrow.below hw').cell (k := k) (by omega)
        generalize (schedN b k ++ List.replicate (64 - k) 0).getD k 0 = old at hB
        have f15 := hcell (k - 15) (by omega)
        have f2 := hcell (k - 2) (by omega)
        have f16 := hcell (k - 16) (by omega)
        have f7 := hcell (k - 7) (by omega)
        have hn : Hid (nextW (schedN b k) = (schedN b k).getD (k - 16) 0 + (schedN b k).getD (k - 7) 0 + sg0 ((schedN b k).getD (k - 15) 0) + sg1 ((schedN b k).getD (k - 2) 0)) := by
          unfold Hid nextW; rw [schedN_length]
        generalize (schedN b k).getD (k - 16) 0 = x16 at hn f16
        generalize (schedN b k).getD (k - 15) 0 = x15 at hn f15
        generalize (schedN b k).getD (k - 7) 0 = x7 at hn f7
        generalize (schedN b k).getD (k - 2) 0 = x2 at hn f2
        have i15 : ((k : Int) - 15).toNat = k - 15 := by omega
        have i2 : ((k : Int) - 2).toNat = k - 2 := by omega
        have i16 : ((k : Int) - 16).toNat = k - 16 := by omega
        have i7 : ((k : Int) - 7).toNat = k - 7 := by omega
        have j15 : (15 : Int) ≤ k := by omega
        have j2 : (2 : Int) ≤ k := by omega
        have j16 : (16 : Int) ≤ k := by omega
        have j7 : (7 : Int) ≤ k := by omega
        have q15 : (0 : Int) ≤ (k : Int) - 15 := by omega
        have q2 : (0 : Int) ≤ (k : Int) - 2 := by omega
        have q16 : (0 : Int) ≤ (k : Int) - 16 := by omega
        have q7 : (0 : Int) ≤ (k : Int) - 7 := by omega
        have k15 : (k : Int) - 15 < 64 := by omega
        have k2 : (k : Int) - 2 < 64 := by omega
        have k16 : (k : Int) - 16 < 64 := by omega
        have k7 : (k : Int) - 7 < 64 := by omega
        have w15 : IntKind.i64.wrap ((k : Int) - 15) = k - 15 := by rw [IntKind.wrap_i64]; omega
        have w2 : IntKind.i64.wrap ((k : Int) - 2) = k - 2 := by rw [IntKind.wrap_i64]; omega
        have w16 : IntKind.i64.wrap ((k : Int) - 16) = k - 16 := by rw [IntKind.wrap_i64]; omega
        have w7 : IntKind.i64.wrap ((k : Int) - 7) = k - 7 := by rw [IntKind.wrap_i64]; omega
        have hcur : Below wr.heap.size wr wr := Below.refl _ _
        have e0 := Ext.refl wr
        clear hcell hl
        go_wp2
        refine wp_region_E (by kernel_rfl) ?_
        replace hcur := below_via hcur (ext_drew _)
        replace e0 := Ext.trans e0 (ext_drew _)
        refine wpAnyE_take (i := 0) (v := ?_) (some 56) rfl rfl (by kernel_rfl) (by kernel_rfl) (by kernel_rfl) (fun _ _ _ h => h) ?_ ?_
        rotate_left 1
        · (refine Or.inl ⟨by rfl, ?_⟩; intro w' hw'; have hq := below_via hcur hw'; have hq_e0 := Ext.trans e0 hw'; have hz_f15 := f15 _ hq_e0; have hz_f2 := f2 _ hq_e0; (try go_simp); (try rfl); done)
        try simp only [Act.put, List.setIfInBounds_toArray, List.set_cons_zero, List.set_cons_succ]
        refine wpAnyE_take (i := 1) (v := ?_) (some 57) rfl rfl (by kernel_rfl) (by kernel_rfl) (by kernel_rfl) (fun _ _ _ h => h) ?_ ?_
        rotate_left 1
        · (refine Or.inl ⟨by rfl, ?_⟩; intro w' hw'; have hq := below_via hcur hw'; have hq_e0 := Ext.trans e0 hw'; have hz_f15 := f15 _ hq_e0; have hz_f2 := f2 _ hq_e0; (try go_simp); (try rfl); done)
        try simp only [Act.put, List.setIfInBounds_toArray, List.set_cons_zero, List.set_cons_succ]
        refine wpAnyE_take (i := 2) (v := ?_) (some 58) rfl rfl (by kernel_rfl) (by kernel_rfl) (by kernel_rfl) (fun _ _ _ h => h) ?_ ?_
        rotate_left 1
        · (refine Or.inl ⟨by rfl, ?_⟩; intro w' hw'; have hq := below_via hcur hw'; have hq_e0 := Ext.trans e0 hw'; have hz_f15 := f15 _ hq_e0; have hz_f2 := f2 _ hq_e0; (try go_simp); (try rfl); done)
        try simp only [Act.put, List.setIfInBounds_toArray, List.set_cons_zero, List.set_cons_succ]
        refine wpAnyE_take (i := 3) (v := ?_) (some 59) rfl rfl (by kernel_rfl) (by kernel_rfl) (by kernel_rfl) (fun _ _ _ h => h) ?_ ?_
        rotate_left 1
        · (refine Or.inl ⟨by rfl, ?_⟩; intro w' hw'; have hq := below_via hcur hw'; have hq_e0 := Ext.trans e0 hw'; have hz_f15 := f15 _ hq_e0; have hz_f2 := f2 _ hq_e0; (try go_simp); (try rfl); done)
        try simp only [Act.put, List.setIfInBounds_toArray, List.set_cons_zero, List.set_cons_succ]
        refine wpAnyE_take (i := 4) (v := ?_) (some 60) rfl rfl (by kernel_rfl) (by kernel_rfl) (by kernel_rfl) (fun _ _ _ h => h) ?_ ?_
        rotate_left 1
        · (refine Or.inl ⟨by rfl, ?_⟩; intro w' hw'; have hq := below_via hcur hw'; have hq_e0 := Ext.trans e0 hw'; have hz_f15 := f15 _ hq_e0; have hz_f2 := f2 _ hq_e0; (try go_simp); (try rfl); done)
        try simp only [Act.put, List.setIfInBounds_toArray, List.set_cons_zero, List.set_cons_succ]
        refine wpAnyE_take (i := 5) (v := ?_) (some 61) rfl rfl (by kernel_rfl) (by kernel_rfl) (by kernel_rfl) (fun _ _ _ h => h) ?_ ?_
        rotate_left 1
        · (refine Or.inl ⟨by rfl, ?_⟩; intro w' hw'; have hq := below_via hcur hw'; have hq_e0 := Ext.trans e0 hw'; have hz_f15 := f15 _ hq_e0; have hz_f2 := f2 _ hq_e0; (try go_simp); (try rfl); done)
        try simp only [Act.put, List.setIfInBounds_toArray, List.set_cons_zero, List.set_cons_succ]
        refine wpAnyE_take (i := 6) (v := ?_) (some 62) rfl rfl (by kernel_rfl) (by kernel_rfl) (by kernel_rfl) (fun _ _ _ h => h) ?_ ?_
        rotate_left 1
        · (refine Or.inl ⟨by rfl, ?_⟩; intro w' hw'; have hq := below_via hcur hw'; have hq_e0 := Ext.trans e0 hw'; have hz_f15 := f15 _ hq_e0; have hz_f2 := f2 _ hq_e0; (try go_simp); (try rfl); done)
        try simp only [Act.put, List.setIfInBounds_toArray, List.set_cons_zero, List.set_cons_succ]
        refine wpAnyE_take (i := 7) (v := ?_) (some 63) rfl rfl (by kernel_rfl) (by kernel_rfl) (by kernel_rfl) (fun _ _ _ h => h) ?_ ?_
        rotate_left 1
        · (refine Or.inl ⟨by rfl, ?_⟩; intro w' hw'; have hq := below_via hcur hw'; have hq_e0 := Ext.trans e0 hw'; have hz_f15 := f15 _ hq_e0; have hz_f2 := f2 _ hq_e0; (try go_simp); (try rfl); done)
        try simp only [Act.put, List.setIfInBounds_toArray, List.set_cons_zero, List.set_cons_succ]
        refine wpAnyE_take (i := 8) (v := ?_) (some 6) rfl rfl (by kernel_rfl) (by kernel_rfl) (by kernel_rfl) (fun _ _ _ h => h) ?_ ?_
        rotate_left 1
        · (refine Or.inl ⟨by rfl, ?_⟩; intro w' hw'; have hq := below_via hcur hw'; have hq_e0 := Ext.trans e0 hw'; have hz_f15 := f15 _ hq_e0; have hz_f2 := f2 _ hq_e0; (try go_simp); (try rfl); done)
        try simp only [Act.put, List.setIfInBounds_toArray, List.set_cons_zero, List.set_cons_succ]
        refine wpAnyE_take (i := 9) (v := ?_) (some 7) rfl rfl (by kernel_rfl) (by kernel_rfl) (by kernel_rfl) (fun _ _ _ h => h) ?_ ?_
        rotate_left 1
        · (refine Or.inl ⟨by rfl, ?_⟩; intro w' hw'; have hq := below_via hcur hw'; have hq_e0 := Ext.trans e0 hw'; have hz_f15 := f15 _ hq_e0; have hz_f2 := f2 _ hq_e0; (try go_simp); (try rfl); done)
        try simp only [Act.put, List.setIfInBounds_toArray, List.set_cons_zero, List.set_cons_succ]
        refine wpAnyE_done (by kernel_rfl) ?_ _
        go_wp2
        refine wp_region_F 29 (by kernel_rfl) (fun hcl => ?_)
        replace hcur := below_via hcur (ext_drew _)
        replace e0 := Ext.trans e0 (ext_drew _)
        refine wpAnyF_take (fin := 29) (i := 0) (v := ?_) hcl (some 64) rfl rfl (by kernel_rfl) (by kernel_rfl) (by kernel_rfl) (fun _ _ _ h => h) (by kernel_rfl) ?_ (fun hcl => ?_)
        rotate_left 1
        · (refine Or.inl ⟨by rfl, ?_⟩; intro w' hw'; have hq := below_via hcur hw'; have hq_e0 := Ext.trans e0 hw'; have hz_f16 := f16 _ hq_e0; have hz_f7 := f7 _ hq_e0; (try go_simp); (try rfl); done)
        try simp only [Act.put, List.setIfInBounds_toArray, List.set_cons_zero, List.set_cons_succ]
        refine wpAnyF_take (fin := 29) (i := 1) (v := ?_) hcl (some 65) rfl rfl (by kernel_rfl) (by kernel_rfl) (by kernel_rfl) (fun _ _ _ h => h) (by kernel_rfl) ?_ (fun hcl => ?_)
        rotate_left 1
        · (refine Or.inl ⟨by rfl, ?_⟩; intro w' hw'; have hq := below_via hcur hw'; have hq_e0 := Ext.trans e0 hw'; have hz_f16 := f16 _ hq_e0; have hz_f7 := f7 _ hq_e0; (try go_simp); (try rfl); done)
        try simp only [Act.put, List.setIfInBounds_toArray, List.set_cons_zero, List.set_cons_succ]
        refine wpAnyF_take (fin := 29) (i := 2) (v := ?_) hcl (some 66) rfl rfl (by kernel_rfl) (by kernel_rfl) (by kernel_rfl) (fun _ _ _ h => h) (by kernel_rfl) ?_ (fun hcl => ?_)
        rotate_left 1
        · (refine Or.inl ⟨by rfl, ?_⟩; intro w' hw'; have hq := below_via hcur hw'; have hq_e0 := Ext.trans e0 hw'; have hz_f16 := f16 _ hq_e0; have hz_f7 := f7 _ hq_e0; (try go_simp); (try rfl); done)
        try simp only [Act.put, List.setIfInBounds_toArray, List.set_cons_zero, List.set_cons_succ]
        refine wpAnyF_take (fin := 29) (i := 3) (v := ?_) hcl (some 67) rfl rfl (by kernel_rfl) (by kernel_rfl) (by kernel_rfl) (fun _ _ _ h => h) (by kernel_rfl) ?_ (fun hcl => ?_)
        rotate_left 1
        · (refine Or.inl ⟨by rfl, ?_⟩; intro w' hw'; have hq := below_via hcur hw'; have hq_e0 := Ext.trans e0 hw'; have hz_f16 := f16 _ hq_e0; have hz_f7 := f7 _ hq_e0; (try go_simp); (try rfl); done)
        try simp only [Act.put, List.setIfInBounds_toArray, List.set_cons_zero, List.set_cons_succ]
        refine wpAnyF_take (fin := 29) (i := 4) (v := ?_) hcl (some 68) rfl rfl (by kernel_rfl) (by kernel_rfl) (by kernel_rfl) (fun _ _ _ h => h) (by kernel_rfl) ?_ (fun hcl => ?_)
        rotate_left 1
        · (refine Or.inl ⟨by rfl, ?_⟩; intro w' hw'; have hq := below_via hcur hw'; have hq_e0 := Ext.trans e0 hw'; have hz_f16 := f16 _ hq_e0; have hz_f7 := f7 _ hq_e0; (try go_simp); (try rfl); done)
        try simp only [Act.put, List.setIfInBounds_toArray, List.set_cons_zero, List.set_cons_succ]
        refine wpAnyF_take (fin := 29) (i := 5) (v := ?_) hcl (some 69) rfl rfl (by kernel_rfl) (by kernel_rfl) (by kernel_rfl) (fun _ _ _ h => h) (by kernel_rfl) ?_ (fun hcl => ?_)
        rotate_left 1
        · (refine Or.inl ⟨by rfl, ?_⟩; intro w' hw'; have hq := below_via hcur hw'; have hq_e0 := Ext.trans e0 hw'; have hz_f16 := f16 _ hq_e0; have hz_f7 := f7 _ hq_e0; (try go_simp); (try rfl); done)
        try simp only [Act.put, List.setIfInBounds_toArray, List.set_cons_zero, List.set_cons_succ]
        refine wpAnyF_take (fin := 29) (i := 6) (v := ?_) hcl (some 70) rfl rfl (by kernel_rfl) (by kernel_rfl) (by kernel_rfl) (fun _ _ _ h => h) (by kernel_rfl) ?_ (fun hcl => ?_)
        rotate_left 1
        · (refine Or.inl ⟨by rfl, ?_⟩; intro w' hw'; have hq := below_via hcur hw'; have hq_e0 := Ext.trans e0 hw'; have hz_f16 := f16 _ hq_e0; have hz_f7 := f7 _ hq_e0; (try go_simp); (try rfl); done)
        try simp only [Act.put, List.setIfInBounds_toArray, List.set_cons_zero, List.set_cons_succ]
        refine wpAnyF_take (fin := 29) (i := 7) (v := ?_) hcl (some 71) rfl rfl (by kernel_rfl) (by kernel_rfl) (by kernel_rfl) (fun _ _ _ h => h) (by kernel_rfl) ?_ (fun hcl => ?_)
        rotate_left 1
        · (refine Or.inl ⟨by rfl, ?_⟩; intro w' hw'; have hq := below_via hcur hw'; have hq_e0 := Ext.trans e0 hw'; have hz_f16 := f16 _ hq_e0; have hz_f7 := f7 _ hq_e0; (try go_simp); (try rfl); done)
        try simp only [Act.put, List.setIfInBounds_toArray, List.set_cons_zero, List.set_cons_succ]
        refine wpAnyF_take (fin := 29) (i := 8) (v := ?_) hcl (some 72) rfl rfl (by kernel_rfl) (by kernel_rfl) (by kernel_rfl) (fun _ _ _ h => h) (by kernel_rfl) ?_ (fun hcl => ?_)
        rotate_left 1
        · (refine Or.inl ⟨by rfl, ?_⟩; intro w' hw'; have hq := below_via hcur hw'; have hq_e0 := Ext.trans e0 hw'; have hz_f16 := f16 _ hq_e0; have hz_f7 := f7 _ hq_e0; (try go_simp); (try rfl); done)
        try simp only [Act.put, List.setIfInBounds_toArray, List.set_cons_zero, List.set_cons_succ]
        refine wpAnyF_take (fin := 29) (i := 9) (v := ?_) hcl (some 73) rfl rfl (by kernel_rfl) (by kernel_rfl) (by kernel_rfl) (fun _ _ _ h => h) (by kernel_rfl) ?_ (fun hcl => ?_)
        rotate_left 1
        · (refine Or.inl ⟨by rfl, ?_⟩; intro w' hw'; have hq := below_via hcur hw'; have hq_e0 := Ext.trans e0 hw'; have hz_f16 := f16 _ hq_e0; have hz_f7 := f7 _ hq_e0; (try go_simp); (try rfl); done)
        try simp only [Act.put, List.setIfInBounds_toArray, List.set_cons_zero, List.set_cons_succ]
        refine wpAnyF_take (fin := 29) (i := 10) (v := ?_) hcl (some 74) rfl rfl (by kernel_rfl) (by kernel_rfl) (by kernel_rfl) (fun _ _ _ h => h) (by kernel_rfl) ?_ (fun hcl => ?_)
        rotate_left 1
        · (refine Or.inl ⟨by rfl, ?_⟩; intro w' hw'; have hq := below_via hcur hw'; have hq_e0 := Ext.trans e0 hw'; have hz_f16 := f16 _ hq_e0; have hz_f7 := f7 _ hq_e0; (try go_simp); (try rfl); done)
        try simp only [Act.put, List.setIfInBounds_toArray, List.set_cons_zero, List.set_cons_succ]
        refine wpAnyF_take (fin := 29) (i := 12) (v := ?_) hcl (some 76) rfl rfl (by kernel_rfl) (by kernel_rfl) (by kernel_rfl) (fun _ _ _ h => h) (by kernel_rfl) ?_ (fun hcl => ?_)
        rotate_left 1
        · (refine Or.inl ⟨by rfl, ?_⟩; intro w' hw'; have hq := below_via hcur hw'; have hq_e0 := Ext.trans e0 hw'; have hz_f16 := f16 _ hq_e0; have hz_f7 := f7 _ hq_e0; (try go_simp); (try rfl); done)
        try simp only [Act.put, List.setIfInBounds_toArray, List.set_cons_zero, List.set_cons_succ]
        refine wpAnyF_take (fin := 29) (i := 15) (v := ?_) hcl (some 79) rfl rfl (by kernel_rfl) (by kernel_rfl) (by kernel_rfl) (fun _ _ _ h => h) (by kernel_rfl) ?_ (fun hcl => ?_)
        rotate_left 1
        · (refine Or.inl ⟨by rfl, ?_⟩; intro w' hw'; have hq := below_via hcur hw'; have hq_e0 := Ext.trans e0 hw'; have hz_f16 := f16 _ hq_e0; have hz_f7 := f7 _ hq_e0; (try go_simp); (try rfl); done)
        try simp only [Act.put, List.setIfInBounds_toArray, List.set_cons_zero, List.set_cons_succ]
        refine wpAnyF_take (fin := 29) (i := 16) (v := ?_) hcl (some 80) rfl rfl (by kernel_rfl) (by kernel_rfl) (by kernel_rfl) (fun _ _ _ h => h) (by kernel_rfl) ?_ (fun hcl => ?_)
        rotate_left 1
        · (refine Or.inl ⟨by rfl, ?_⟩; intro w' hw'; have hq := below_via hcur hw'; have hq_e0 := Ext.trans e0 hw'; have hz_f16 := f16 _ hq_e0; have hz_f7 := f7 _ hq_e0; (try go_simp); (try rfl); done)
        try simp only [Act.put, List.setIfInBounds_toArray, List.set_cons_zero, List.set_cons_succ]
        refine wpAnyF_take (fin := 29) (i := 19) (v := ?_) hcl (some 83) rfl rfl (by kernel_rfl) (by kernel_rfl) (by kernel_rfl) (fun _ _ _ h => h) (by kernel_rfl) ?_ (fun hcl => ?_)
        rotate_left 1
        · (refine Or.inl ⟨by rfl, ?_⟩; intro w' hw'; have hq := below_via hcur hw'; have hq_e0 := Ext.trans e0 hw'; have hz_f16 := f16 _ hq_e0; have hz_f7 := f7 _ hq_e0; (try go_simp); (try rfl); done)
        try simp only [Act.put, List.setIfInBounds_toArray, List.set_cons_zero, List.set_cons_succ]
        refine wpAnyF_take (fin := 29) (i := 21) (v := ?_) hcl (some 85) rfl rfl (by kernel_rfl) (by kernel_rfl) (by kernel_rfl) (fun _ _ _ h => h) (by kernel_rfl) ?_ (fun hcl => ?_)
        rotate_left 1
        · (refine Or.inl ⟨by rfl, ?_⟩; intro w' hw'; have hq := below_via hcur hw'; have hq_e0 := Ext.trans e0 hw'; have hz_f16 := f16 _ hq_e0; have hz_f7 := f7 _ hq_e0; (try go_simp); (try rfl); done)
        try simp only [Act.put, List.setIfInBounds_toArray, List.set_cons_zero, List.set_cons_succ]
        refine wpAnyF_take (fin := 29) (i := 24) (v := ?_) hcl (some 88) rfl rfl (by kernel_rfl) (by kernel_rfl) (by kernel_rfl) (fun _ _ _ h => h) (by kernel_rfl) ?_ (fun hcl => ?_)
        rotate_left 1
        · (refine Or.inl ⟨by rfl, ?_⟩; intro w' hw'; have hq := below_via hcur hw'; have hq_e0 := Ext.trans e0 hw'; have hz_f16 := f16 _ hq_e0; have hz_f7 := f7 _ hq_e0; (try go_simp); (try rfl); done)
        try simp only [Act.put, List.setIfInBounds_toArray, List.set_cons_zero, List.set_cons_succ]
        refine wpAnyF_take (fin := 29) (i := 25) (v := ?_) hcl (some 89) rfl rfl (by kernel_rfl) (by kernel_rfl) (by kernel_rfl) (fun _ _ _ h => h) (by kernel_rfl) ?_ (fun hcl => ?_)
        rotate_left 1
        · (refine Or.inl ⟨by rfl, ?_⟩; intro w' hw'; have hq := below_via hcur hw'; have hq_e0 := Ext.trans e0 hw'; have hz_f16 := f16 _ hq_e0; have hz_f7 := f7 _ hq_e0; (try go_simp); (try rfl); done)
        try simp only [Act.put, List.setIfInBounds_toArray, List.set_cons_zero, List.set_cons_succ]
        refine wpAnyF_one (fin := 29) (i := 11) hcl rfl (by kernel_rfl) (by rfl) (fun hcl K hK => ?_)
        go_simp
        (with_reducible refine (turnL _ 7 7 rfl (by decide) (by decide) _).mono ?_); rintro e w1 ⟨rfl, rfl⟩
        refine hK.out _ _ (Ext.refl _) ?_
        clear hK K
        try simp only [Act.put, List.setIfInBounds_toArray, List.set_cons_zero, List.set_cons_succ]
        refine wpAnyF_one (fin := 29) (i := 13) hcl rfl (by kernel_rfl) (by rfl) (fun hcl K hK => ?_)
        go_simp
        (with_reducible refine (turnL _ 18 18 rfl (by decide) (by decide) _).mono ?_); rintro e w1 ⟨rfl, rfl⟩
        refine hK.out _ _ (Ext.refl _) ?_
        clear hK K
        try simp only [Act.put, List.setIfInBounds_toArray, List.set_cons_zero, List.set_cons_succ]
        refine wpAnyF_take (fin := 29) (i := 14) (v := ?_) hcl (some 78) rfl rfl (by kernel_rfl) (by kernel_rfl) (by kernel_rfl) (fun _ _ _ h => h) (by kernel_rfl) ?_ (fun hcl => ?_)
        rotate_left 1
        · (refine Or.inl ⟨by rfl, ?_⟩; intro w' hw'; have hq := below_via hcur hw'; have hq_e0 := Ext.trans e0 hw'; have hz_f16 := f16 _ hq_e0; have hz_f7 := f7 _ hq_e0; (try go_simp); (try rfl); done)
        try simp only [Act.put, List.setIfInBounds_toArray, List.set_cons_zero, List.set_cons_succ]
        refine wpAnyF_take (fin := 29) (i := 17) (v := ?_) hcl (some 81) rfl rfl (by kernel_rfl) (by kernel_rfl) (by kernel_rfl) (fun _ _ _ h => h) (by kernel_rfl) ?_ (fun hcl => ?_)
        rotate_left 1
        · (refine Or.inl ⟨by rfl, ?_⟩; intro w' hw'; have hq := below_via hcur hw'; have hq_e0 := Ext.trans e0 hw'; have hz_f16 := f16 _ hq_e0; have hz_f7 := f7 _ hq_e0; (try go_simp); (try rfl); done)
        try simp only [Act.put, List.setIfInBounds_toArray, List.set_cons_zero, List.set_cons_succ]
        refine wpAnyF_take (fin := 29) (i := 18) (v := ?_) hcl (some 82) rfl rfl (by kernel_rfl) (by kernel_rfl) (by kernel_rfl) (fun _ _ _ h => h) (by kernel_rfl) ?_ (fun hcl => ?_)
        rotate_left 1
        · (refine Or.inl ⟨by rfl, ?_⟩; intro w' hw'; have hq := below_via hcur hw'; have hq_e0 := Ext.trans e0 hw'; have hz_f16 := f16 _ hq_e0; have hz_f7 := f7 _ hq_e0; (try go_simp); (try rfl); done)
        try simp only [Act.put, List.setIfInBounds_toArray, List.set_cons_zero, List.set_cons_succ]
        refine wpAnyF_one (fin := 29) (i := 20) hcl rfl (by kernel_rfl) (by rfl) (fun hcl K hK => ?_)
        go_simp
        (with_reducible refine (turnL _ 17 17 rfl (by decide) (by decide) _).mono ?_); rintro e w1 ⟨rfl, rfl⟩
        refine hK.out _ _ (Ext.refl _) ?_
        clear hK K
        try simp only [Act.put, List.setIfInBounds_toArray, List.set_cons_zero, List.set_cons_succ]
        refine wpAnyF_one (fin := 29) (i := 22) hcl rfl (by kernel_rfl) (by rfl) (fun hcl K hK => ?_)
        go_simp
        (with_reducible refine (turnL _ 19 19 rfl (by decide) (by decide) _).mono ?_); rintro e w1 ⟨rfl, rfl⟩
        refine hK.out _ _ (Ext.refl _) ?_
        clear hK K
        try simp only [Act.put, List.setIfInBounds_toArray, List.set_cons_zero, List.set_cons_succ]
        refine wpAnyF_take (fin := 29) (i := 23) (v := ?_) hcl (some 87) rfl rfl (by kernel_rfl) (by kernel_rfl) (by kernel_rfl) (fun _ _ _ h => h) (by kernel_rfl) ?_ (fun hcl => ?_)
        rotate_left 1
        · (refine Or.inl ⟨by rfl, ?_⟩; intro w' hw'; have hq := below_via hcur hw'; have hq_e0 := Ext.trans e0 hw'; have hz_f16 := f16 _ hq_e0; have hz_f7 := f7 _ hq_e0; (try go_simp); (try rfl); done)
        try simp only [Act.put, List.setIfInBounds_toArray, List.set_cons_zero, List.set_cons_succ]
        refine wpAnyF_take (fin := 29) (i := 26) (v := ?_) hcl (some 90) rfl rfl (by kernel_rfl) (by kernel_rfl) (by kernel_rfl) (fun _ _ _ h => h) (by kernel_rfl) ?_ (fun hcl => ?_)
        rotate_left 1
        · (refine Or.inl ⟨by rfl, ?_⟩; intro w' hw'; have hq := below_via hcur hw'; have hq_e0 := Ext.trans e0 hw'; have hz_f16 := f16 _ hq_e0; have hz_f7 := f7 _ hq_e0; (try go_simp); (try rfl); done)
        try simp only [Act.put, List.setIfInBounds_toArray, List.set_cons_zero, List.set_cons_succ]
        refine wpAnyF_take (fin := 29) (i := 27) (v := ?_) hcl (some 91) rfl rfl (by kernel_rfl) (by kernel_rfl) (by kernel_rfl) (fun _ _ _ h => h) (by kernel_rfl) ?_ (fun hcl => ?_)
        rotate_left 1
        · (refine Or.inl ⟨by rfl, ?_⟩; intro w' hw'; have hq := below_via hcur hw'; have hq_e0 := Ext.trans e0 hw'; have hz_f16 := f16 _ hq_e0; have hz_f7 := f7 _ hq_e0; (try go_simp); (try rfl); done)
        try simp only [Act.put, List.setIfInBounds_toArray, List.set_cons_zero, List.set_cons_succ]
        refine wpAnyF_take (fin := 29) (i := 28) (v := ?_) hcl (some 92) rfl rfl (by kernel_rfl) (by kernel_rfl) (by kernel_rfl) (fun _ _ _ h => h) (by kernel_rfl) ?_ (fun hcl => ?_)
        rotate_left 1
        · (refine Or.inl ⟨by rfl, ?_⟩; intro w' hw'; have hq := below_via hcur hw'; have hq_e0 := Ext.trans e0 hw'; have hz_f16 := f16 _ hq_e0; have hz_f7 := f7 _ hq_e0; (try go_simp); (try rfl); done)
        try simp only [Act.put, List.setIfInBounds_toArray, List.set_cons_zero, List.set_cons_succ]
        refine wpAnyF_last (fin := 29) rfl (by kernel_rfl) (by kernel_rfl) (by rfl) (fun K hK => ?_)
        have fBc := hB _ e0
        go_simp
        refine hK.out _ _ ?_
        clear hK K hcl
        go_wp2
        go_roundw
        case rel =>
          rw [next4, ← hn.out]
          refine ⟨k + 1, by omega, by go_num, ?_, (below_setCell bw (Nat.le_refl _) _).drew.drew⟩
          have := hrow.set k (nextW (schedN b k))
          have e := sched_set b k h64
          rw [if_neg h16] at e
          rw [e] at this
          exact this
        case measure => simp [intOf]; omega
      -- /DEV
    · obtain rfl : k = 64 := by omega
      simp only [Nat.sub_self, List.replicate_zero, List.append_nil] at hrow
      have hgw := (bw.block g (Array.getElem?_eq_some_iff.1 hg).1).trans hg
      have hst := fun j (hj : j < 8) => stCells_head (n := n) (made := true) (rest := rest) hgw hj
      have s0 : wr.cell? ⟨g, 0, none⟩ = some (.int .u32 (c32 s.a)) := hst 0 (by omega)
      have s1 : wr.cell? ⟨g, 1, none⟩ = some (.int .u32 (c32 s.b)) := hst 1 (by omega)
      have s2 : wr.cell? ⟨g, 2, none⟩ = some (.int .u32 (c32 s.c)) := hst 2 (by omega)
      have s3 : wr.cell? ⟨g, 3, none⟩ = some (.int .u32 (c32 s.d)) := hst 3 (by omega)
      have s4 : wr.cell? ⟨g, 4, none⟩ = some (.int .u32 (c32 s.e)) := hst 4 (by omega)
      have s5 : wr.cell? ⟨g, 5, none⟩ = some (.int .u32 (c32 s.f)) := hst 5 (by omega)
      have s6 : wr.cell? ⟨g, 6, none⟩ = some (.int .u32 (c32 s.g)) := hst 6 (by omega)
      have s7 : wr.cell? ⟨g, 7, none⟩ = some (.int .u32 (c32 s.h)) := hst 7 (by omega)
      clear hst
      go_wp2_with fail
      refine (const_any _).mono ?_
      rintro e w1 ⟨rfl, b1⟩
      have hV : Row8 w1 wr.heap.size s := (b1.block wr.heap.size (by show _ < (wr.heap.push _).size; simp)).trans (heap_alloc_new _ _)
      have bw1 : Below w.heap.size w w1 := (bw.trans ((Below.refl _ _).alloc bw.size _)).trans (b1.mono (by show _ ≤ (wr.heap.push _).size; have := bw.size; simp; omega))
      have hrow1 : Row64 w1 w.heap.size (sched b) := (hrow.below (ext_alloc _ _)).below b1
      have hg1 : w1.heap[g]? = some (.cells (stCells s rest n true).toArray 78 (0, 0)) := (bw1.block g (Array.getElem?_eq_some_iff.1 hg).1).trans hg
      have hBV : w.heap.size < wr.heap.size := (Array.getElem?_eq_some_iff.1 hrow).1
      generalize wr.heap.size = V at hV hBV
      clear s0 s1 s2 s3 s4 s5 s6 s7 hgw hrow b1 hrr bw h64 hk
      go_wp2_with fail
      go_loopw [99] (fun i wr => ∃ k : Nat, k ≤ 64 ∧ i = .int .i64 k ∧ Row8 wr V (roundsN (sched b) s k) ∧ Row64 wr w.heap.size (sched b) ∧ wr.heap[g]? = some (.cells (stCells s rest n true).toArray 78 (0, 0)) ∧ Below w.heap.size w wr) (fun i _ => 64 - (intOf i).toNat)
      case atStart => exact ⟨0, by omega, rfl, hV, hrow1, hg1, bw1⟩
      case round =>
        clear hV hrow1 hg1 bw1
        obtain ⟨k, hk, rfl, hV, hrow, hg1, bw⟩ := hrel
        by_cases h64 : k < 64
        ·
          -- DEV
          have hW : ∀ w', Ext wr w' → w'.cell? ⟨w.heap.size, k, none⟩ = some (.int .u32 (c32 ((sched b).getD k 0))) := fun w' hw' => ((hrow.below hw').cell (k := k) (by rw [sched_length]; omega)).1
          have hn : Hid (roundsN (sched b) s (k + 1) = rnd (roundsN (sched b) s k) (shaK.getD k 0) ((sched b).getD k 0)) := rfl
          generalize roundsN (sched b) s k = t at hV hn
          generalize (sched b).getD k 0 = W at hW hn
          have hv := fun j (hj : j < 8) w' (hw' : Ext wr w') => ((hV.below hw').cell hj).1
          have v0 : ∀ w', Ext wr w' → w'.cell? ⟨V, 0, none⟩ = some (.int .u32 (c32 t.a)) := hv 0 (by omega)
          have v1 : ∀ w', Ext wr w' → w'.cell? ⟨V, 1, none⟩ = some (.int .u32 (c32 t.b)) := hv 1 (by omega)
          have v2 : ∀ w', Ext wr w' → w'.cell? ⟨V, 2, none⟩ = some (.int .u32 (c32 t.c)) := hv 2 (by omega)
          have v4 : ∀ w', Ext wr w' → w'.cell? ⟨V, 4, none⟩ = some (.int .u32 (c32 t.e)) := hv 4 (by omega)
          have v5 : ∀ w', Ext wr w' → w'.cell? ⟨V, 5, none⟩ = some (.int .u32 (c32 t.f)) := hv 5 (by omega)
          have v6 : ∀ w', Ext wr w' → w'.cell? ⟨V, 6, none⟩ = some (.int .u32 (c32 t.g)) := hv 6 (by omega)
          have v7 : ∀ w', Ext wr w' → w'.cell? ⟨V, 7, none⟩ = some (.int .u32 (c32 t.h)) := hv 7 (by omega)
          clear hv
          have hKK := index47 wr shaK k h64 rfl
          generalize shaK.getD k 0 = kk at hKK hn
          have hcur : Below wr.heap.size wr wr := Below.refl _ _
          have e0 := Ext.refl wr
          go_wp2_with fail
          refine wp_region_E (by kernel_rfl) ?_
          replace hcur := below_via hcur (ext_drew _)
          replace e0 := Ext.trans e0 (ext_drew _)
          refine wpAnyE_take (i := 0) (v := ?_) (some 103) rfl rfl (by kernel_rfl) (by kernel_rfl) (by kernel_rfl) (fun _ _ _ h => h) ?_ ?_
          rotate_left 1
          · (refine Or.inl ⟨by rfl, ?_⟩; intro w' hw'; have hq := below_via hcur hw'; have hq_e0 := Ext.trans e0 hw'; have hz_v0 := v0 _ hq_e0; have hz_v4 := v4 _ hq_e0; (try go_simp); (try rfl); done)
          try simp only [Act.put, List.setIfInBounds_toArray, List.set_cons_zero, List.set_cons_succ]
          refine wpAnyE_take (i := 1) (v := ?_) (some 104) rfl rfl (by kernel_rfl) (by kernel_rfl) (by kernel_rfl) (fun _ _ _ h => h) ?_ ?_
          rotate_left 1
          · (refine Or.inl ⟨by rfl, ?_⟩; intro w' hw'; have hq := below_via hcur hw'; have hq_e0 := Ext.trans e0 hw'; have hz_v0 := v0 _ hq_e0; have hz_v4 := v4 _ hq_e0; (try go_simp); (try rfl); done)
          try simp only [Act.put, List.setIfInBounds_toArray, List.set_cons_zero, List.set_cons_succ]
          refine wpAnyE_take (i := 2) (v := ?_) (some 105) rfl rfl (by kernel_rfl) (by kernel_rfl) (by kernel_rfl) (fun _ _ _ h => h) ?_ ?_
          rotate_left 1
          · (refine Or.inl ⟨by rfl, ?_⟩; intro w' hw'; have hq := below_via hcur hw'; have hq_e0 := Ext.trans e0 hw'; have hz_v0 := v0 _ hq_e0; have hz_v4 := v4 _ hq_e0; (try go_simp); (try rfl); done)
          try simp only [Act.put, List.setIfInBounds_toArray, List.set_cons_zero, List.set_cons_succ]
          refine wpAnyE_take (i := 3) (v := ?_) (some 106) rfl rfl (by kernel_rfl) (by kernel_rfl) (by kernel_rfl) (fun _ _ _ h => h) ?_ ?_
          rotate_left 1
          · (refine Or.inl ⟨by rfl, ?_⟩; intro w' hw'; have hq := below_via hcur hw'; have hq_e0 := Ext.trans e0 hw'; have hz_v0 := v0 _ hq_e0; have hz_v4 := v4 _ hq_e0; (try go_simp); (try rfl); done)
          try simp only [Act.put, List.setIfInBounds_toArray, List.set_cons_zero, List.set_cons_succ]
          refine wpAnyE_take (i := 4) (v := ?_) (some 11) rfl rfl (by kernel_rfl) (by kernel_rfl) (by kernel_rfl) (fun _ _ _ h => h) ?_ ?_
          rotate_left 1
          · (refine Or.inl ⟨by rfl, ?_⟩; intro w' hw'; have hq := below_via hcur hw'; have hq_e0 := Ext.trans e0 hw'; have hz_v0 := v0 _ hq_e0; have hz_v4 := v4 _ hq_e0; (try go_simp); (try rfl); done)
          try simp only [Act.put, List.setIfInBounds_toArray, List.set_cons_zero, List.set_cons_succ]
          refine wpAnyE_take (i := 5) (v := ?_) (some 12) rfl rfl (by kernel_rfl) (by kernel_rfl) (by kernel_rfl) (fun _ _ _ h => h) ?_ ?_
          rotate_left 1
          · (refine Or.inl ⟨by rfl, ?_⟩; intro w' hw'; have hq := below_via hcur hw'; have hq_e0 := Ext.trans e0 hw'; have hz_v0 := v0 _ hq_e0; have hz_v4 := v4 _ hq_e0; (try go_simp); (try rfl); done)
          try simp only [Act.put, List.setIfInBounds_toArray, List.set_cons_zero, List.set_cons_succ]
          refine wpAnyE_done (by kernel_rfl) ?_ _
          go_wp2_with fail
          refine wp_region_E (by kernel_rfl) ?_
          replace hcur := below_via hcur (ext_drew _)
          replace e0 := Ext.trans e0 (ext_drew _)
          refine wpAnyE_take (i := 0) (v := ?_) (some 107) rfl rfl (by kernel_rfl) (by kernel_rfl) (by kernel_rfl) (fun _ _ _ h => h) ?_ ?_
          rotate_left 1
          · (refine Or.inl ⟨by rfl, ?_⟩; intro w' hw'; have hq := below_via hcur hw'; have hq_e0 := Ext.trans e0 hw'; have hz_v7 := v7 _ hq_e0; have hz_v5 := v5 _ hq_e0; have hz_v6 := v6 _ hq_e0; have hz_hW := hW _ hq_e0; (try go_simp); (try rfl); done)
          try simp only [Act.put, List.setIfInBounds_toArray, List.set_cons_zero, List.set_cons_succ]
          refine wpAnyE_take (i := 1) (v := ?_) (some 108) rfl rfl (by kernel_rfl) (by kernel_rfl) (by kernel_rfl) (fun _ _ _ h => h) ?_ ?_
          rotate_left 1
          · (refine Or.inl ⟨by rfl, ?_⟩; intro w' hw'; have hq := below_via hcur hw'; have hq_e0 := Ext.trans e0 hw'; have hz_v7 := v7 _ hq_e0; have hz_v5 := v5 _ hq_e0; have hz_v6 := v6 _ hq_e0; have hz_hW := hW _ hq_e0; (try go_simp); (try rfl); done)
          try simp only [Act.put, List.setIfInBounds_toArray, List.set_cons_zero, List.set_cons_succ]
          refine wpAnyE_take (i := 2) (v := ?_) (some 109) rfl rfl (by kernel_rfl) (by kernel_rfl) (by kernel_rfl) (fun _ _ _ h => h) ?_ ?_
          rotate_left 1
          · (refine Or.inl ⟨by rfl, ?_⟩; intro w' hw'; have hq := below_via hcur hw'; have hq_e0 := Ext.trans e0 hw'; have hz_v7 := v7 _ hq_e0; have hz_v5 := v5 _ hq_e0; have hz_v6 := v6 _ hq_e0; have hz_hW := hW _ hq_e0; (try go_simp); (try rfl); done)
          try simp only [Act.put, List.setIfInBounds_toArray, List.set_cons_zero, List.set_cons_succ]
          refine wpAnyE_take (i := 4) (v := ?_) (some 111) rfl rfl (by kernel_rfl) (by kernel_rfl) (by kernel_rfl) (fun _ _ _ h => h) ?_ ?_
          rotate_left 1
          · (refine Or.inl ⟨by rfl, ?_⟩; intro w' hw'; have hq := below_via hcur hw'; have hq_e0 := Ext.trans e0 hw'; have hz_v7 := v7 _ hq_e0; have hz_v5 := v5 _ hq_e0; have hz_v6 := v6 _ hq_e0; have hz_hW := hW _ hq_e0; (try go_simp); (try rfl); done)
          try simp only [Act.put, List.setIfInBounds_toArray, List.set_cons_zero, List.set_cons_succ]
          refine wpAnyE_take (i := 7) (v := ?_) (some 114) rfl rfl (by kernel_rfl) (by kernel_rfl) (by kernel_rfl) (fun _ _ _ h => h) ?_ ?_
          rotate_left 1
          · (refine Or.inl ⟨by rfl, ?_⟩; intro w' hw'; have hq := below_via hcur hw'; have hq_e0 := Ext.trans e0 hw'; have hz_v7 := v7 _ hq_e0; have hz_v5 := v5 _ hq_e0; have hz_v6 := v6 _ hq_e0; have hz_hW := hW _ hq_e0; (try go_simp); (try rfl); done)
          try simp only [Act.put, List.setIfInBounds_toArray, List.set_cons_zero, List.set_cons_succ]
          refine wpAnyE_take (i := 11) (v := ?_) (some 118) rfl rfl (by kernel_rfl) (by kernel_rfl) (by kernel_rfl) (fun _ _ _ h => h) ?_ ?_
          rotate_left 1
          · (refine Or.inl ⟨by rfl, ?_⟩; intro w' hw'; have hq := below_via hcur hw'; have hq_e0 := Ext.trans e0 hw'; have hz_v7 := v7 _ hq_e0; have hz_v5 := v5 _ hq_e0; have hz_v6 := v6 _ hq_e0; have hz_hW := hW _ hq_e0; (try go_simp); (try rfl); done)
          try simp only [Act.put, List.setIfInBounds_toArray, List.set_cons_zero, List.set_cons_succ]
          refine wpAnyE_take (i := 12) (v := ?_) (some 119) rfl rfl (by kernel_rfl) (by kernel_rfl) (by kernel_rfl) (fun _ _ _ h => h) ?_ ?_
          rotate_left 1
          · (refine Or.inl ⟨by rfl, ?_⟩; intro w' hw'; have hq := below_via hcur hw'; have hq_e0 := Ext.trans e0 hw'; have hz_v7 := v7 _ hq_e0; have hz_v5 := v5 _ hq_e0; have hz_v6 := v6 _ hq_e0; have hz_hW := hW _ hq_e0; (try go_simp); (try rfl); done)
          try simp only [Act.put, List.setIfInBounds_toArray, List.set_cons_zero, List.set_cons_succ]
          refine wpAnyE_take (i := 13) (v := ?_) (some 120) rfl rfl (by kernel_rfl) (by kernel_rfl) (by kernel_rfl) (fun _ _ _ h => h) ?_ ?_
          rotate_left 1
          · (refine Or.inl ⟨by rfl, ?_⟩; intro w' hw'; have hq := below_via hcur hw'; have hq_e0 := Ext.trans e0 hw'; have hz_v7 := v7 _ hq_e0; have hz_v5 := v5 _ hq_e0; have hz_v6 := v6 _ hq_e0; have hz_hW := hW _ hq_e0; (try go_simp); (try rfl); done)
          try simp only [Act.put, List.setIfInBounds_toArray, List.set_cons_zero, List.set_cons_succ]
          refine wpAnyE_take (i := 14) (v := ?_) (some 121) rfl rfl (by kernel_rfl) (by kernel_rfl) (by kernel_rfl) (fun _ _ _ h => h) ?_ ?_
          rotate_left 1
          · (refine Or.inl ⟨by rfl, ?_⟩; intro w' hw'; have hq := below_via hcur hw'; have hq_e0 := Ext.trans e0 hw'; have hz_v7 := v7 _ hq_e0; have hz_v5 := v5 _ hq_e0; have hz_v6 := v6 _ hq_e0; have hz_hW := hW _ hq_e0; (try go_simp); (try rfl); done)
          try simp only [Act.put, List.setIfInBounds_toArray, List.set_cons_zero, List.set_cons_succ]
          refine wpAnyE_take (i := 15) (v := ?_) (some 122) rfl rfl (by kernel_rfl) (by kernel_rfl) (by kernel_rfl) (fun _ _ _ h => h) ?_ ?_
          rotate_left 1
          · (refine Or.inl ⟨by rfl, ?_⟩; intro w' hw'; have hq := below_via hcur hw'; have hq_e0 := Ext.trans e0 hw'; have hz_v7 := v7 _ hq_e0; have hz_v5 := v5 _ hq_e0; have hz_v6 := v6 _ hq_e0; have hz_hW := hW _ hq_e0; (try go_simp); (try rfl); done)
          try simp only [Act.put, List.setIfInBounds_toArray, List.set_cons_zero, List.set_cons_succ]
          refine wpAnyE_take (i := 16) (v := ?_) (some 123) rfl rfl (by kernel_rfl) (by kernel_rfl) (by kernel_rfl) (fun _ _ _ h => h) ?_ ?_
          rotate_left 1
          · (refine Or.inl ⟨by rfl, ?_⟩; intro w' hw'; have hq := below_via hcur hw'; have hq_e0 := Ext.trans e0 hw'; have hz_v7 := v7 _ hq_e0; have hz_v5 := v5 _ hq_e0; have hz_v6 := v6 _ hq_e0; have hz_hW := hW _ hq_e0; (try go_simp); (try rfl); done)
          try simp only [Act.put, List.setIfInBounds_toArray, List.set_cons_zero, List.set_cons_succ]
          refine wpAnyE_take (i := 17) (v := ?_) (some 124) rfl rfl (by kernel_rfl) (by kernel_rfl) (by kernel_rfl) (fun _ _ _ h => h) ?_ ?_
          rotate_left 1
          · (refine Or.inl ⟨by rfl, ?_⟩; intro w' hw'; have hq := below_via hcur hw'; have hq_e0 := Ext.trans e0 hw'; have hz_v7 := v7 _ hq_e0; have hz_v5 := v5 _ hq_e0; have hz_v6 := v6 _ hq_e0; have hz_hW := hW _ hq_e0; (try go_simp); (try rfl); done)
          try simp only [Act.put, List.setIfInBounds_toArray, List.set_cons_zero, List.set_cons_succ]
          refine wpAnyE_take (i := 18) (v := ?_) (some 125) rfl rfl (by kernel_rfl) (by kernel_rfl) (by kernel_rfl) (fun _ _ _ h => h) ?_ ?_
          rotate_left 1
          · (refine Or.inl ⟨by rfl, ?_⟩; intro w' hw'; have hq := below_via hcur hw'; have hq_e0 := Ext.trans e0 hw'; have hz_v7 := v7 _ hq_e0; have hz_v5 := v5 _ hq_e0; have hz_v6 := v6 _ hq_e0; have hz_hW := hW _ hq_e0; (try go_simp); (try rfl); done)
          try simp only [Act.put, List.setIfInBounds_toArray, List.set_cons_zero, List.set_cons_succ]
          refine wpAnyE_take (i := 19) (v := ?_) (some 126) rfl rfl (by kernel_rfl) (by kernel_rfl) (by kernel_rfl) (fun _ _ _ h => h) ?_ ?_
          rotate_left 1
          · (refine Or.inl ⟨by rfl, ?_⟩; intro w' hw'; have hq := below_via hcur hw'; have hq_e0 := Ext.trans e0 hw'; have hz_v7 := v7 _ hq_e0; have hz_v5 := v5 _ hq_e0; have hz_v6 := v6 _ hq_e0; have hz_hW := hW _ hq_e0; (try go_simp); (try rfl); done)
          try simp only [Act.put, List.setIfInBounds_toArray, List.set_cons_zero, List.set_cons_succ]
          refine wpAnyE_take (i := 20) (v := ?_) (some 127) rfl rfl (by kernel_rfl) (by kernel_rfl) (by kernel_rfl) (fun _ _ _ h => h) ?_ ?_
          rotate_left 1
          · (refine Or.inl ⟨by rfl, ?_⟩; intro w' hw'; have hq := below_via hcur hw'; have hq_e0 := Ext.trans e0 hw'; have hz_v7 := v7 _ hq_e0; have hz_v5 := v5 _ hq_e0; have hz_v6 := v6 _ hq_e0; have hz_hW := hW _ hq_e0; (try go_simp); (try rfl); done)
          try simp only [Act.put, List.setIfInBounds_toArray, List.set_cons_zero, List.set_cons_succ]
          refine wpAnyE_take (i := 22) (v := ?_) (some 129) rfl rfl (by kernel_rfl) (by kernel_rfl) (by kernel_rfl) (fun _ _ _ h => h) ?_ ?_
          rotate_left 1
          · (refine Or.inl ⟨by rfl, ?_⟩; intro w' hw'; have hq := below_via hcur hw'; have hq_e0 := Ext.trans e0 hw'; have hz_v7 := v7 _ hq_e0; have hz_v5 := v5 _ hq_e0; have hz_v6 := v6 _ hq_e0; have hz_hW := hW _ hq_e0; (try go_simp); (try rfl); done)
          try simp only [Act.put, List.setIfInBounds_toArray, List.set_cons_zero, List.set_cons_succ]
          refine wpAnyE_take (i := 24) (v := ?_) (some 131) rfl rfl (by kernel_rfl) (by kernel_rfl) (by kernel_rfl) (fun _ _ _ h => h) ?_ ?_
          rotate_left 1
          · (refine Or.inl ⟨by rfl, ?_⟩; intro w' hw'; have hq := below_via hcur hw'; have hq_e0 := Ext.trans e0 hw'; have hz_v7 := v7 _ hq_e0; have hz_v5 := v5 _ hq_e0; have hz_v6 := v6 _ hq_e0; have hz_hW := hW _ hq_e0; (try go_simp); (try rfl); done)
          try simp only [Act.put, List.setIfInBounds_toArray, List.set_cons_zero, List.set_cons_succ]
          refine wpAnyE_take (i := 25) (v := ?_) (some 132) rfl rfl (by kernel_rfl) (by kernel_rfl) (by kernel_rfl) (fun _ _ _ h => h) ?_ ?_
          rotate_left 1
          · (refine Or.inl ⟨by rfl, ?_⟩; intro w' hw'; have hq := below_via hcur hw'; have hq_e0 := Ext.trans e0 hw'; have hz_v7 := v7 _ hq_e0; have hz_v5 := v5 _ hq_e0; have hz_v6 := v6 _ hq_e0; have hz_hW := hW _ hq_e0; (try go_simp); (try rfl); done)
          try simp only [Act.put, List.setIfInBounds_toArray, List.set_cons_zero, List.set_cons_succ]
          refine wpAnyE_take (i := 26) (v := ?_) (some 133) rfl rfl (by kernel_rfl) (by kernel_rfl) (by kernel_rfl) (fun _ _ _ h => h) ?_ ?_
          rotate_left 1
          · (refine Or.inl ⟨by rfl, ?_⟩; intro w' hw'; have hq := below_via hcur hw'; have hq_e0 := Ext.trans e0 hw'; have hz_v7 := v7 _ hq_e0; have hz_v5 := v5 _ hq_e0; have hz_v6 := v6 _ hq_e0; have hz_hW := hW _ hq_e0; (try go_simp); (try rfl); done)
          try simp only [Act.put, List.setIfInBounds_toArray, List.set_cons_zero, List.set_cons_succ]
          refine wpAnyE_one (i := 3) rfl (by kernel_rfl) (by rfl) (fun K hK => ?_)
          go_simp
          (with_reducible refine (turnL _ 6 6 rfl (by decide) (by decide) _).mono ?_); rintro e w1 ⟨rfl, rfl⟩
          refine hK.out _ _ (Ext.refl _) ?_
          clear hK K
          try simp only [Act.put, List.setIfInBounds_toArray, List.set_cons_zero, List.set_cons_succ]
          refine wpAnyE_one (i := 5) rfl (by kernel_rfl) (by rfl) (fun K hK => ?_)
          go_simp
          (with_reducible refine (turnL _ 11 11 rfl (by decide) (by decide) _).mono ?_); rintro e w1 ⟨rfl, rfl⟩
          refine hK.out _ _ (Ext.refl _) ?_
          clear hK K
          try simp only [Act.put, List.setIfInBounds_toArray, List.set_cons_zero, List.set_cons_succ]
          refine wpAnyE_take (i := 6) (v := ?_) (some 113) rfl rfl (by kernel_rfl) (by kernel_rfl) (by kernel_rfl) (fun _ _ _ h => h) ?_ ?_
          rotate_left 1
          · (refine Or.inl ⟨by rfl, ?_⟩; intro w' hw'; have hq := below_via hcur hw'; have hq_e0 := Ext.trans e0 hw'; have hz_v7 := v7 _ hq_e0; have hz_v5 := v5 _ hq_e0; have hz_v6 := v6 _ hq_e0; have hz_hW := hW _ hq_e0; (try go_simp); (try rfl); done)
          try simp only [Act.put, List.setIfInBounds_toArray, List.set_cons_zero, List.set_cons_succ]
          refine wpAnyE_one (i := 8) rfl (by kernel_rfl) (by rfl) (fun K hK => ?_)
          go_simp
          (with_reducible refine (turnL _ 25 25 rfl (by decide) (by decide) _).mono ?_); rintro e w1 ⟨rfl, rfl⟩
          refine hK.out _ _ (Ext.refl _) ?_
          clear hK K
          try simp only [Act.put, List.setIfInBounds_toArray, List.set_cons_zero, List.set_cons_succ]
          refine wpAnyE_take (i := 9) (v := ?_) (some 116) rfl rfl (by kernel_rfl) (by kernel_rfl) (by kernel_rfl) (fun _ _ _ h => h) ?_ ?_
          rotate_left 1
          · (refine Or.inl ⟨by rfl, ?_⟩; intro w' hw'; have hq := below_via hcur hw'; have hq_e0 := Ext.trans e0 hw'; have hz_v7 := v7 _ hq_e0; have hz_v5 := v5 _ hq_e0; have hz_v6 := v6 _ hq_e0; have hz_hW := hW _ hq_e0; (try go_simp); (try rfl); done)
          try simp only [Act.put, List.setIfInBounds_toArray, List.set_cons_zero, List.set_cons_succ]
          refine wpAnyE_take (i := 10) (v := ?_) (some 117) rfl rfl (by kernel_rfl) (by kernel_rfl) (by kernel_rfl) (fun _ _ _ h => h) ?_ ?_
          rotate_left 1
          · (refine Or.inl ⟨by rfl, ?_⟩; intro w' hw'; have hq := below_via hcur hw'; have hq_e0 := Ext.trans e0 hw'; have hz_v7 := v7 _ hq_e0; have hz_v5 := v5 _ hq_e0; have hz_v6 := v6 _ hq_e0; have hz_hW := hW _ hq_e0; (try go_simp); (try rfl); done)
          try simp only [Act.put, List.setIfInBounds_toArray, List.set_cons_zero, List.set_cons_succ]
          refine wpAnyE_take (i := 21) (v := ?_) (some 128) rfl rfl (by kernel_rfl) (by kernel_rfl) (by kernel_rfl) (fun _ _ _ h => h) ?_ ?_
          rotate_left 1
          · (refine Or.inl ⟨by rfl, ?_⟩; intro w' hw'; have hq := below_via hcur hw'; have hq_e0 := Ext.trans e0 hw'; have hz_v7 := v7 _ hq_e0; have hz_v5 := v5 _ hq_e0; have hz_v6 := v6 _ hq_e0; have hz_hW := hW _ hq_e0; (try go_simp); (try rfl); done)
          try simp only [Act.put, List.setIfInBounds_toArray, List.set_cons_zero, List.set_cons_succ]
          refine wpAnyE_take (i := 23) (v := ?_) (some 130) rfl rfl (by kernel_rfl) (by kernel_rfl) (by kernel_rfl) (fun _ _ _ h => h) ?_ ?_
          rotate_left 1
          · (refine Or.inl ⟨by rfl, ?_⟩; intro w' hw'; have hq := below_via hcur hw'; have hq_e0 := Ext.trans e0 hw'; have hz_v7 := v7 _ hq_e0; have hz_v5 := v5 _ hq_e0; have hz_v6 := v6 _ hq_e0; have hz_hW := hW _ hq_e0; (try go_simp); (try rfl); done)
          try simp only [Act.put, List.setIfInBounds_toArray, List.set_cons_zero, List.set_cons_succ]
          refine wpAnyE_take (i := 27) (v := ?_) (some 134) rfl rfl (by kernel_rfl) (by kernel_rfl) (by kernel_rfl) (fun _ _ _ h => h) ?_ ?_
          rotate_left 1
          · (refine Or.inl ⟨by rfl, ?_⟩; intro w' hw'; have hq := below_via hcur hw'; have hq_e0 := Ext.trans e0 hw'; have hz_v7 := v7 _ hq_e0; have hz_v5 := v5 _ hq_e0; have hz_v6 := v6 _ hq_e0; have hz_hW := hW _ hq_e0; (try go_simp); (try rfl); done)
          try simp only [Act.put, List.setIfInBounds_toArray, List.set_cons_zero, List.set_cons_succ]
          refine wpAnyE_take (i := 28) (v := ?_) (some 13) rfl rfl (by kernel_rfl) (by kernel_rfl) (by kernel_rfl) (fun _ _ _ h => h) ?_ ?_
          rotate_left 1
          · (refine Or.inl ⟨by rfl, ?_⟩; intro w' hw'; have hq := below_via hcur hw'; have hq_e0 := Ext.trans e0 hw'; have hz_v7 := v7 _ hq_e0; have hz_v5 := v5 _ hq_e0; have hz_v6 := v6 _ hq_e0; have hz_hW := hW _ hq_e0; (try go_simp); (try rfl); done)
          try simp only [Act.put, List.setIfInBounds_toArray, List.set_cons_zero, List.set_cons_succ]
          refine wpAnyE_done (by kernel_rfl) ?_ _
          go_wp2_with fail
          refine wp_region_E (by kernel_rfl) ?_
          replace hcur := below_via hcur (ext_drew _)
          replace e0 := Ext.trans e0 (ext_drew _)
          refine wpAnyE_take (i := 0) (v := ?_) (some 135) rfl rfl (by kernel_rfl) (by kernel_rfl) (by kernel_rfl) (fun _ _ _ h => h) ?_ ?_
          rotate_left 1
          · (refine Or.inl ⟨by rfl, ?_⟩; intro w' hw'; have hq := below_via hcur hw'; have hq_e0 := Ext.trans e0 hw'; have hz_v1 := v1 _ hq_e0; have hz_v2 := v2 _ hq_e0; (try go_simp); (try rfl); done)
          try simp only [Act.put, List.setIfInBounds_toArray, List.set_cons_zero, List.set_cons_succ]
          refine wpAnyE_take (i := 2) (v := ?_) (some 137) rfl rfl (by kernel_rfl) (by kernel_rfl) (by kernel_rfl) (fun _ _ _ h => h) ?_ ?_
          rotate_left 1
          · (refine Or.inl ⟨by rfl, ?_⟩; intro w' hw'; have hq := below_via hcur hw'; have hq_e0 := Ext.trans e0 hw'; have hz_v1 := v1 _ hq_e0; have hz_v2 := v2 _ hq_e0; (try go_simp); (try rfl); done)
          try simp only [Act.put, List.setIfInBounds_toArray, List.set_cons_zero, List.set_cons_succ]
          refine wpAnyE_take (i := 5) (v := ?_) (some 140) rfl rfl (by kernel_rfl) (by kernel_rfl) (by kernel_rfl) (fun _ _ _ h => h) ?_ ?_
          rotate_left 1
          · (refine Or.inl ⟨by rfl, ?_⟩; intro w' hw'; have hq := below_via hcur hw'; have hq_e0 := Ext.trans e0 hw'; have hz_v1 := v1 _ hq_e0; have hz_v2 := v2 _ hq_e0; (try go_simp); (try rfl); done)
          try simp only [Act.put, List.setIfInBounds_toArray, List.set_cons_zero, List.set_cons_succ]
          refine wpAnyE_take (i := 8) (v := ?_) (some 143) rfl rfl (by kernel_rfl) (by kernel_rfl) (by kernel_rfl) (fun _ _ _ h => h) ?_ ?_
          rotate_left 1
          · (refine Or.inl ⟨by rfl, ?_⟩; intro w' hw'; have hq := below_via hcur hw'; have hq_e0 := Ext.trans e0 hw'; have hz_v1 := v1 _ hq_e0; have hz_v2 := v2 _ hq_e0; (try go_simp); (try rfl); done)
          try simp only [Act.put, List.setIfInBounds_toArray, List.set_cons_zero, List.set_cons_succ]
          refine wpAnyE_take (i := 9) (v := ?_) (some 144) rfl rfl (by kernel_rfl) (by kernel_rfl) (by kernel_rfl) (fun _ _ _ h => h) ?_ ?_
          rotate_left 1
          · (refine Or.inl ⟨by rfl, ?_⟩; intro w' hw'; have hq := below_via hcur hw'; have hq_e0 := Ext.trans e0 hw'; have hz_v1 := v1 _ hq_e0; have hz_v2 := v2 _ hq_e0; (try go_simp); (try rfl); done)
          try simp only [Act.put, List.setIfInBounds_toArray, List.set_cons_zero, List.set_cons_succ]
          refine wpAnyE_take (i := 10) (v := ?_) (some 145) rfl rfl (by kernel_rfl) (by kernel_rfl) (by kernel_rfl) (fun _ _ _ h => h) ?_ ?_
          rotate_left 1
          · (refine Or.inl ⟨by rfl, ?_⟩; intro w' hw'; have hq := below_via hcur hw'; have hq_e0 := Ext.trans e0 hw'; have hz_v1 := v1 _ hq_e0; have hz_v2 := v2 _ hq_e0; (try go_simp); (try rfl); done)
          try simp only [Act.put, List.setIfInBounds_toArray, List.set_cons_zero, List.set_cons_succ]
          refine wpAnyE_take (i := 11) (v := ?_) (some 146) rfl rfl (by kernel_rfl) (by kernel_rfl) (by kernel_rfl) (fun _ _ _ h => h) ?_ ?_
          rotate_left 1
          · (refine Or.inl ⟨by rfl, ?_⟩; intro w' hw'; have hq := below_via hcur hw'; have hq_e0 := Ext.trans e0 hw'; have hz_v1 := v1 _ hq_e0; have hz_v2 := v2 _ hq_e0; (try go_simp); (try rfl); done)
          try simp only [Act.put, List.setIfInBounds_toArray, List.set_cons_zero, List.set_cons_succ]
          refine wpAnyE_take (i := 12) (v := ?_) (some 147) rfl rfl (by kernel_rfl) (by kernel_rfl) (by kernel_rfl) (fun _ _ _ h => h) ?_ ?_
          rotate_left 1
          · (refine Or.inl ⟨by rfl, ?_⟩; intro w' hw'; have hq := below_via hcur hw'; have hq_e0 := Ext.trans e0 hw'; have hz_v1 := v1 _ hq_e0; have hz_v2 := v2 _ hq_e0; (try go_simp); (try rfl); done)
          try simp only [Act.put, List.setIfInBounds_toArray, List.set_cons_zero, List.set_cons_succ]
          refine wpAnyE_take (i := 13) (v := ?_) (some 148) rfl rfl (by kernel_rfl) (by kernel_rfl) (by kernel_rfl) (fun _ _ _ h => h) ?_ ?_
          rotate_left 1
          · (refine Or.inl ⟨by rfl, ?_⟩; intro w' hw'; have hq := below_via hcur hw'; have hq_e0 := Ext.trans e0 hw'; have hz_v1 := v1 _ hq_e0; have hz_v2 := v2 _ hq_e0; (try go_simp); (try rfl); done)
          try simp only [Act.put, List.setIfInBounds_toArray, List.set_cons_zero, List.set_cons_succ]
          refine wpAnyE_take (i := 14) (v := ?_) (some 149) rfl rfl (by kernel_rfl) (by kernel_rfl) (by kernel_rfl) (fun _ _ _ h => h) ?_ ?_
          rotate_left 1
          · (refine Or.inl ⟨by rfl, ?_⟩; intro w' hw'; have hq := below_via hcur hw'; have hq_e0 := Ext.trans e0 hw'; have hz_v1 := v1 _ hq_e0; have hz_v2 := v2 _ hq_e0; (try go_simp); (try rfl); done)
          try simp only [Act.put, List.setIfInBounds_toArray, List.set_cons_zero, List.set_cons_succ]
          refine wpAnyE_take (i := 15) (v := ?_) (some 150) rfl rfl (by kernel_rfl) (by kernel_rfl) (by kernel_rfl) (fun _ _ _ h => h) ?_ ?_
          rotate_left 1
          · (refine Or.inl ⟨by rfl, ?_⟩; intro w' hw'; have hq := below_via hcur hw'; have hq_e0 := Ext.trans e0 hw'; have hz_v1 := v1 _ hq_e0; have hz_v2 := v2 _ hq_e0; (try go_simp); (try rfl); done)
          try simp only [Act.put, List.setIfInBounds_toArray, List.set_cons_zero, List.set_cons_succ]
          refine wpAnyE_take (i := 16) (v := ?_) (some 151) rfl rfl (by kernel_rfl) (by kernel_rfl) (by kernel_rfl) (fun _ _ _ h => h) ?_ ?_
          rotate_left 1
          · (refine Or.inl ⟨by rfl, ?_⟩; intro w' hw'; have hq := below_via hcur hw'; have hq_e0 := Ext.trans e0 hw'; have hz_v1 := v1 _ hq_e0; have hz_v2 := v2 _ hq_e0; (try go_simp); (try rfl); done)
          try simp only [Act.put, List.setIfInBounds_toArray, List.set_cons_zero, List.set_cons_succ]
          refine wpAnyE_take (i := 17) (v := ?_) (some 152) rfl rfl (by kernel_rfl) (by kernel_rfl) (by kernel_rfl) (fun _ _ _ h => h) ?_ ?_
          rotate_left 1
          · (refine Or.inl ⟨by rfl, ?_⟩; intro w' hw'; have hq := below_via hcur hw'; have hq_e0 := Ext.trans e0 hw'; have hz_v1 := v1 _ hq_e0; have hz_v2 := v2 _ hq_e0; (try go_simp); (try rfl); done)
          try simp only [Act.put, List.setIfInBounds_toArray, List.set_cons_zero, List.set_cons_succ]
          refine wpAnyE_take (i := 18) (v := ?_) (some 153) rfl rfl (by kernel_rfl) (by kernel_rfl) (by kernel_rfl) (fun _ _ _ h => h) ?_ ?_
          rotate_left 1
          · (refine Or.inl ⟨by rfl, ?_⟩; intro w' hw'; have hq := below_via hcur hw'; have hq_e0 := Ext.trans e0 hw'; have hz_v1 := v1 _ hq_e0; have hz_v2 := v2 _ hq_e0; (try go_simp); (try rfl); done)
          try simp only [Act.put, List.setIfInBounds_toArray, List.set_cons_zero, List.set_cons_succ]
          refine wpAnyE_take (i := 19) (v := ?_) (some 154) rfl rfl (by kernel_rfl) (by kernel_rfl) (by kernel_rfl) (fun _ _ _ h => h) ?_ ?_
          rotate_left 1
          · (refine Or.inl ⟨by rfl, ?_⟩; intro w' hw'; have hq := below_via hcur hw'; have hq_e0 := Ext.trans e0 hw'; have hz_v1 := v1 _ hq_e0; have hz_v2 := v2 _ hq_e0; (try go_simp); (try rfl); done)
          try simp only [Act.put, List.setIfInBounds_toArray, List.set_cons_zero, List.set_cons_succ]
          refine wpAnyE_take (i := 20) (v := ?_) (some 155) rfl rfl (by kernel_rfl) (by kernel_rfl) (by kernel_rfl) (fun _ _ _ h => h) ?_ ?_
          rotate_left 1
          · (refine Or.inl ⟨by rfl, ?_⟩; intro w' hw'; have hq := below_via hcur hw'; have hq_e0 := Ext.trans e0 hw'; have hz_v1 := v1 _ hq_e0; have hz_v2 := v2 _ hq_e0; (try go_simp); (try rfl); done)
          try simp only [Act.put, List.setIfInBounds_toArray, List.set_cons_zero, List.set_cons_succ]
          refine wpAnyE_take (i := 21) (v := ?_) (some 156) rfl rfl (by kernel_rfl) (by kernel_rfl) (by kernel_rfl) (fun _ _ _ h => h) ?_ ?_
          rotate_left 1
          · (refine Or.inl ⟨by rfl, ?_⟩; intro w' hw'; have hq := below_via hcur hw'; have hq_e0 := Ext.trans e0 hw'; have hz_v1 := v1 _ hq_e0; have hz_v2 := v2 _ hq_e0; (try go_simp); (try rfl); done)
          try simp only [Act.put, List.setIfInBounds_toArray, List.set_cons_zero, List.set_cons_succ]
          refine wpAnyE_take (i := 22) (v := ?_) (some 157) rfl rfl (by kernel_rfl) (by kernel_rfl) (by kernel_rfl) (fun _ _ _ h => h) ?_ ?_
          rotate_left 1
          · (refine Or.inl ⟨by rfl, ?_⟩; intro w' hw'; have hq := below_via hcur hw'; have hq_e0 := Ext.trans e0 hw'; have hz_v1 := v1 _ hq_e0; have hz_v2 := v2 _ hq_e0; (try go_simp); (try rfl); done)
          try simp only [Act.put, List.setIfInBounds_toArray, List.set_cons_zero, List.set_cons_succ]
          refine wpAnyE_one (i := 1) rfl (by kernel_rfl) (by rfl) (fun K hK => ?_)
          go_simp
          (with_reducible refine (turnL _ 2 2 rfl (by decide) (by decide) _).mono ?_); rintro e w1 ⟨rfl, rfl⟩
          refine hK.out _ _ (Ext.refl _) ?_
          clear hK K
          try simp only [Act.put, List.setIfInBounds_toArray, List.set_cons_zero, List.set_cons_succ]
          refine wpAnyE_one (i := 3) rfl (by kernel_rfl) (by rfl) (fun K hK => ?_)
          go_simp
          (with_reducible refine (turnL _ 13 13 rfl (by decide) (by decide) _).mono ?_); rintro e w1 ⟨rfl, rfl⟩
          refine hK.out _ _ (Ext.refl _) ?_
          clear hK K
          try simp only [Act.put, List.setIfInBounds_toArray, List.set_cons_zero, List.set_cons_succ]
          refine wpAnyE_take (i := 4) (v := ?_) (some 139) rfl rfl (by kernel_rfl) (by kernel_rfl) (by kernel_rfl) (fun _ _ _ h => h) ?_ ?_
          rotate_left 1
          · (refine Or.inl ⟨by rfl, ?_⟩; intro w' hw'; have hq := below_via hcur hw'; have hq_e0 := Ext.trans e0 hw'; have hz_v1 := v1 _ hq_e0; have hz_v2 := v2 _ hq_e0; (try go_simp); (try rfl); done)
          try simp only [Act.put, List.setIfInBounds_toArray, List.set_cons_zero, List.set_cons_succ]
          refine wpAnyE_one (i := 6) rfl (by kernel_rfl) (by rfl) (fun K hK => ?_)
          go_simp
          (with_reducible refine (turnL _ 22 22 rfl (by decide) (by decide) _).mono ?_); rintro e w1 ⟨rfl, rfl⟩
          refine hK.out _ _ (Ext.refl _) ?_
          clear hK K
          try simp only [Act.put, List.setIfInBounds_toArray, List.set_cons_zero, List.set_cons_succ]
          refine wpAnyE_take (i := 7) (v := ?_) (some 142) rfl rfl (by kernel_rfl) (by kernel_rfl) (by kernel_rfl) (fun _ _ _ h => h) ?_ ?_
          rotate_left 1
          · (refine Or.inl ⟨by rfl, ?_⟩; intro w' hw'; have hq := below_via hcur hw'; have hq_e0 := Ext.trans e0 hw'; have hz_v1 := v1 _ hq_e0; have hz_v2 := v2 _ hq_e0; (try go_simp); (try rfl); done)
          try simp only [Act.put, List.setIfInBounds_toArray, List.set_cons_zero, List.set_cons_succ]
          refine wpAnyE_take (i := 23) (v := ?_) (some 158) rfl rfl (by kernel_rfl) (by kernel_rfl) (by kernel_rfl) (fun _ _ _ h => h) ?_ ?_
          rotate_left 1
          · (refine Or.inl ⟨by rfl, ?_⟩; intro w' hw'; have hq := below_via hcur hw'; have hq_e0 := Ext.trans e0 hw'; have hz_v1 := v1 _ hq_e0; have hz_v2 := v2 _ hq_e0; (try go_simp); (try rfl); done)
          try simp only [Act.put, List.setIfInBounds_toArray, List.set_cons_zero, List.set_cons_succ]
          refine wpAnyE_take (i := 24) (v := ?_) (some 14) rfl rfl (by kernel_rfl) (by kernel_rfl) (by kernel_rfl) (fun _ _ _ h => h) ?_ ?_
          rotate_left 1
          · (refine Or.inl ⟨by rfl, ?_⟩; intro w' hw'; have hq := below_via hcur hw'; have hq_e0 := Ext.trans e0 hw'; have hz_v1 := v1 _ hq_e0; have hz_v2 := v2 _ hq_e0; (try go_simp); (try rfl); done)
          try simp only [Act.put, List.setIfInBounds_toArray, List.set_cons_zero, List.set_cons_succ]
          refine wpAnyE_done (by kernel_rfl) ?_ _
          go_wp2_with fail
          refine wp_region_F 2 (by kernel_rfl) (fun hcl => ?_)
          replace hcur := below_via hcur (ext_drew _)
          replace e0 := Ext.trans e0 (ext_drew _)
          refine wpAnyF_take (fin := 2) (i := 0) (v := ?_) hcl (some 159) rfl rfl (by kernel_rfl) (by kernel_rfl) (by kernel_rfl) (fun _ _ _ h => h) (by kernel_rfl) ?_ (fun hcl => ?_)
          rotate_left 1
          · (refine Or.inl ⟨by rfl, ?_⟩; intro w' hw'; have hq := below_via hcur hw'; have hq_e0 := Ext.trans e0 hw'; (try go_simp); (try rfl); done)
          try simp only [Act.put, List.setIfInBounds_toArray, List.set_cons_zero, List.set_cons_succ]
          refine wpAnyF_take (fin := 2) (i := 1) (v := ?_) hcl (some 160) rfl rfl (by kernel_rfl) (by kernel_rfl) (by kernel_rfl) (fun _ _ _ h => h) (by kernel_rfl) ?_ (fun hcl => ?_)
          rotate_left 1
          · (refine Or.inl ⟨by rfl, ?_⟩; intro w' hw'; have hq := below_via hcur hw'; have hq_e0 := Ext.trans e0 hw'; (try go_simp); (try rfl); done)
          try simp only [Act.put, List.setIfInBounds_toArray, List.set_cons_zero, List.set_cons_succ]
          refine wpAnyF_last (fin := 2) rfl (by kernel_rfl) (by kernel_rfl) (by rfl) (fun K hK => ?_)
          have kc := copy8 (hV.below e0)
          go_simp
          refine hK.out _ _ ?_
          clear hK K hcl
          have hV2 := (hV.below e0).setRow t.shift
          have bw2 := below_setRow (bw.trans (e0.mono bw.size)) (Nat.le_of_lt hBV) (u32s t.shift.list).toArray
          have hrow2 : Row64 _ _ _ := (heap_setRow_other _ V _ (u32s t.shift.list).toArray (Nat.ne_of_lt hBV)).trans (hrow.below e0)
          generalize World.setRow _ V _ = w2 at hV2 bw2 hrow2 ⊢
          clear v0 v1 v2 v4 v5 v6 v7 hKK hW hcur e0 hV hrow hg1 bw
          have hg2 := (bw2.block g (Array.getElem?_eq_some_iff.1 hg).1).trans hg
          have v4 : w2.cell? ⟨V, 4, none⟩ = some (.int .u32 (c32 t.d)) ∧ _ := hV2.cell (j := 4) (by omega)
          have v0 : w2.cell? ⟨V, 0, none⟩ = some (.int .u32 (c32 t.a)) ∧ _ := hV2.cell (j := 0) (by omega)
          go_wp2_with fail
          rw [sum5, sum7]
          go_roundw
          case rel =>
            have hgV : g < w.heap.size := (Array.getElem?_eq_some_iff.1 hg).1
            have bw3 := below_setCell (k := 0) (below_setCell (k := 4) bw2 (Nat.le_of_lt hBV) (.int .u32 (c32 (t.d + (t.h + (rot t.e 6 ^^^ rot t.e 11 ^^^ rot t.e 25) + (t.e &&& t.f ^^^ ~~~t.e &&& t.g) + kk + W))))) (Nat.le_of_lt hBV)
              (.int .u32 (c32 (t.h + (rot t.e 6 ^^^ rot t.e 11 ^^^ rot t.e 25) + (t.e &&& t.f ^^^ ~~~t.e &&& t.g) + kk + W + ((rot t.a 2 ^^^ rot t.a 13 ^^^ rot t.a 22) + (t.a &&& t.b ^^^ t.a &&& t.c ^^^ t.b &&& t.c)))))
            refine ⟨k + 1, by omega, by go_num, ?_, ?_, (bw3.block g hgV).trans hg, bw3⟩
            · rw [hn.out]
              exact (hV2.set4 _).set0 _
            · refine (Below.heap_setCell _ _ _ _ (Nat.ne_of_lt hBV)).trans ((Below.heap_setCell _ _ _ _ (Nat.ne_of_lt hBV)).trans hrow2)
          case measure => simp [intOf]; omega
          -- /DEV
        ·
          obtain rfl : k = 64 := by omega
          have hbl : Hid (blockS s b = s.add (roundsN (sched b) s 64)) := rfl
          generalize roundsN (sched b) s 64 = t at hV hbl
          clear hrow hk h64
          have hg2 : HeadAt wr g (mixL s t 0) (bs rest ++ [.int .u64 n, .bool true]) := by
            unfold HeadAt; rw [hg1]; simp [stCells, mixL]
          go_wp2_with fail
          go_loopw [172] (fun i wr => ∃ k : Nat, k ≤ 8 ∧ i = .int .i64 k ∧ HeadAt wr g (mixL s t k) (bs rest ++ [.int .u64 n, .bool true]) ∧ Row8 wr V t ∧ w.grownBy wr (some g)) (fun i _ => 8 - (intOf i).toNat)
          case atStart => exact ⟨0, by omega, rfl, hg2, hV, grown_of_below bw _⟩
          case round =>
            clear hV hg2 bw hg1
            obtain ⟨k, hk, rfl, hg2, hV, bw⟩ := hrel
            have hml := mixL_length s t k
            by_cases h8 : k < 8
            · have hG : ∀ w', Ext wr w' → w'.cell? ⟨g, k, none⟩ = some (.int .u32 (c32 (s.list.getD k 0))) ∧ w'.frozen? ⟨g, k, none⟩ = false := fun w' hw' => by
                have := (hg2.below hw').cell (k := k) (by omega)
                rwa [mixL_get s t h8] at this
              have hVk : ∀ w', Ext wr w' → w'.cell? ⟨V, k, none⟩ = some (.int .u32 (c32 (t.list.getD k 0))) := fun w' hw' => ((hV.below hw').cell h8).1
              have hset := hg2.set (k := k) (by omega) (s.list.getD k 0 + t.list.getD k 0)
              rw [mixL_set s t h8] at hset
              generalize s.list.getD k 0 = x at hG hset
              generalize t.list.getD k 0 = y at hVk hset
              have hcur : Below wr.heap.size wr wr := Below.refl _ _
              have e0 := Ext.refl wr
              go_wp2_with fail
              refine wp_region_F 13 (by kernel_rfl) (fun hcl => ?_)
              replace hcur := below_via hcur (ext_drew _)
              replace e0 := Ext.trans e0 (ext_drew _)
              refine wpAnyF_take (fin := 13) (i := 0) (v := ?_) hcl (some 175) rfl rfl (by kernel_rfl) (by kernel_rfl) (by kernel_rfl) (fun _ _ _ h => h) (by kernel_rfl) ?_ (fun hcl => ?_)
              rotate_left 1
              · (refine Or.inl ⟨by rfl, ?_⟩; intro w' hw'; have hq := below_via hcur hw'; have hq_e0 := Ext.trans e0 hw'; have hz_hG := hG _ hq_e0; have hz_hVk := hVk _ hq_e0; (try go_simp); (try rfl); done)
              try simp only [Act.put, List.setIfInBounds_toArray, List.set_cons_zero, List.set_cons_succ]
              refine wpAnyF_take (fin := 13) (i := 1) (v := ?_) hcl (some 176) rfl rfl (by kernel_rfl) (by kernel_rfl) (by kernel_rfl) (fun _ _ _ h => h) (by kernel_rfl) ?_ (fun hcl => ?_)
              rotate_left 1
              · (refine Or.inl ⟨by rfl, ?_⟩; intro w' hw'; have hq := below_via hcur hw'; have hq_e0 := Ext.trans e0 hw'; have hz_hG := hG _ hq_e0; have hz_hVk := hVk _ hq_e0; (try go_simp); (try rfl); done)
              try simp only [Act.put, List.setIfInBounds_toArray, List.set_cons_zero, List.set_cons_succ]
              refine wpAnyF_take (fin := 13) (i := 2) (v := ?_) hcl (some 177) rfl rfl (by kernel_rfl) (by kernel_rfl) (by kernel_rfl) (fun _ _ _ h => h) (by kernel_rfl) ?_ (fun hcl => ?_)
              rotate_left 1
              · (refine Or.inl ⟨by rfl, ?_⟩; intro w' hw'; have hq := below_via hcur hw'; have hq_e0 := Ext.trans e0 hw'; have hz_hG := hG _ hq_e0; have hz_hVk := hVk _ hq_e0; (try go_simp); (try rfl); done)
              try simp only [Act.put, List.setIfInBounds_toArray, List.set_cons_zero, List.set_cons_succ]
              refine wpAnyF_take (fin := 13) (i := 3) (v := ?_) hcl (some 178) rfl rfl (by kernel_rfl) (by kernel_rfl) (by kernel_rfl) (fun _ _ _ h => h) (by kernel_rfl) ?_ (fun hcl => ?_)
              rotate_left 1
              · (refine Or.inl ⟨by rfl, ?_⟩; intro w' hw'; have hq := below_via hcur hw'; have hq_e0 := Ext.trans e0 hw'; have hz_hG := hG _ hq_e0; have hz_hVk := hVk _ hq_e0; (try go_simp); (try rfl); done)
              try simp only [Act.put, List.setIfInBounds_toArray, List.set_cons_zero, List.set_cons_succ]
              refine wpAnyF_take (fin := 13) (i := 4) (v := ?_) hcl (some 179) rfl rfl (by kernel_rfl) (by kernel_rfl) (by kernel_rfl) (fun _ _ _ h => h) (by kernel_rfl) ?_ (fun hcl => ?_)
              rotate_left 1
              · (refine Or.inl ⟨by rfl, ?_⟩; intro w' hw'; have hq := below_via hcur hw'; have hq_e0 := Ext.trans e0 hw'; have hz_hG := hG _ hq_e0; have hz_hVk := hVk _ hq_e0; (try go_simp); (try rfl); done)
              try simp only [Act.put, List.setIfInBounds_toArray, List.set_cons_zero, List.set_cons_succ]
              refine wpAnyF_take (fin := 13) (i := 5) (v := ?_) hcl (some 180) rfl rfl (by kernel_rfl) (by kernel_rfl) (by kernel_rfl) (fun _ _ _ h => h) (by kernel_rfl) ?_ (fun hcl => ?_)
              rotate_left 1
              · (refine Or.inl ⟨by rfl, ?_⟩; intro w' hw'; have hq := below_via hcur hw'; have hq_e0 := Ext.trans e0 hw'; have hz_hG := hG _ hq_e0; have hz_hVk := hVk _ hq_e0; (try go_simp); (try rfl); done)
              try simp only [Act.put, List.setIfInBounds_toArray, List.set_cons_zero, List.set_cons_succ]
              refine wpAnyF_take (fin := 13) (i := 6) (v := ?_) hcl (some 181) rfl rfl (by kernel_rfl) (by kernel_rfl) (by kernel_rfl) (fun _ _ _ h => h) (by kernel_rfl) ?_ (fun hcl => ?_)
              rotate_left 1
              · (refine Or.inl ⟨by rfl, ?_⟩; intro w' hw'; have hq := below_via hcur hw'; have hq_e0 := Ext.trans e0 hw'; have hz_hG := hG _ hq_e0; have hz_hVk := hVk _ hq_e0; (try go_simp); (try rfl); done)
              try simp only [Act.put, List.setIfInBounds_toArray, List.set_cons_zero, List.set_cons_succ]
              refine wpAnyF_take (fin := 13) (i := 7) (v := ?_) hcl (some 182) rfl rfl (by kernel_rfl) (by kernel_rfl) (by kernel_rfl) (fun _ _ _ h => h) (by kernel_rfl) ?_ (fun hcl => ?_)
              rotate_left 1
              · (refine Or.inl ⟨by rfl, ?_⟩; intro w' hw'; have hq := below_via hcur hw'; have hq_e0 := Ext.trans e0 hw'; have hz_hG := hG _ hq_e0; have hz_hVk := hVk _ hq_e0; (try go_simp); (try rfl); done)
              try simp only [Act.put, List.setIfInBounds_toArray, List.set_cons_zero, List.set_cons_succ]
              refine wpAnyF_take (fin := 13) (i := 8) (v := ?_) hcl (some 183) rfl rfl (by kernel_rfl) (by kernel_rfl) (by kernel_rfl) (fun _ _ _ h => h) (by kernel_rfl) ?_ (fun hcl => ?_)
              rotate_left 1
              · (refine Or.inl ⟨by rfl, ?_⟩; intro w' hw'; have hq := below_via hcur hw'; have hq_e0 := Ext.trans e0 hw'; have hz_hG := hG _ hq_e0; have hz_hVk := hVk _ hq_e0; (try go_simp); (try rfl); done)
              try simp only [Act.put, List.setIfInBounds_toArray, List.set_cons_zero, List.set_cons_succ]
              refine wpAnyF_take (fin := 13) (i := 9) (v := ?_) hcl (some 184) rfl rfl (by kernel_rfl) (by kernel_rfl) (by kernel_rfl) (fun _ _ _ h => h) (by kernel_rfl) ?_ (fun hcl => ?_)
              rotate_left 1
              · (refine Or.inl ⟨by rfl, ?_⟩; intro w' hw'; have hq := below_via hcur hw'; have hq_e0 := Ext.trans e0 hw'; have hz_hG := hG _ hq_e0; have hz_hVk := hVk _ hq_e0; (try go_simp); (try rfl); done)
              try simp only [Act.put, List.setIfInBounds_toArray, List.set_cons_zero, List.set_cons_succ]
              refine wpAnyF_take (fin := 13) (i := 10) (v := ?_) hcl (some 185) rfl rfl (by kernel_rfl) (by kernel_rfl) (by kernel_rfl) (fun _ _ _ h => h) (by kernel_rfl) ?_ (fun hcl => ?_)
              rotate_left 1
              · (refine Or.inl ⟨by rfl, ?_⟩; intro w' hw'; have hq := below_via hcur hw'; have hq_e0 := Ext.trans e0 hw'; have hz_hG := hG _ hq_e0; have hz_hVk := hVk _ hq_e0; (try go_simp); (try rfl); done)
              try simp only [Act.put, List.setIfInBounds_toArray, List.set_cons_zero, List.set_cons_succ]
              refine wpAnyF_take (fin := 13) (i := 11) (v := ?_) hcl (some 186) rfl rfl (by kernel_rfl) (by kernel_rfl) (by kernel_rfl) (fun _ _ _ h => h) (by kernel_rfl) ?_ (fun hcl => ?_)
              rotate_left 1
              · (refine Or.inl ⟨by rfl, ?_⟩; intro w' hw'; have hq := below_via hcur hw'; have hq_e0 := Ext.trans e0 hw'; have hz_hG := hG _ hq_e0; have hz_hVk := hVk _ hq_e0; (try go_simp); (try rfl); done)
              try simp only [Act.put, List.setIfInBounds_toArray, List.set_cons_zero, List.set_cons_succ]
              refine wpAnyF_take (fin := 13) (i := 12) (v := ?_) hcl (some 187) rfl rfl (by kernel_rfl) (by kernel_rfl) (by kernel_rfl) (fun _ _ _ h => h) (by kernel_rfl) ?_ (fun hcl => ?_)
              rotate_left 1
              · (refine Or.inl ⟨by rfl, ?_⟩; intro w' hw'; have hq := below_via hcur hw'; have hq_e0 := Ext.trans e0 hw'; have hz_hG := hG _ hq_e0; have hz_hVk := hVk _ hq_e0; (try go_simp); (try rfl); done)
              try simp only [Act.put, List.setIfInBounds_toArray, List.set_cons_zero, List.set_cons_succ]
              refine wpAnyF_last (fin := 13) rfl (by kernel_rfl) (by kernel_rfl) (by rfl) (fun K hK => ?_)
              have hGc := hG _ e0
              go_simp
              refine hK.out _ _ ?_
              clear hK K hcl
              go_wp2_with fail
              go_roundw
              case rel =>
                have hgV : g < V := Nat.lt_of_lt_of_le (Array.getElem?_eq_some_iff.1 hg).1 (Nat.le_of_lt hBV)
                rw [sum2]
                refine ⟨_, _, _, _, _, _, _, _, _, _, _, _, _, _, _, _, _, _, ⟨k + 1, by omega, by go_num, hset, (heap_setCell_other _ _ _ _ (Nat.ne_of_gt hgV)).trans hV, grown_drew (grown_setCell bw _)⟩, rfl⟩
              case measure => simp [intOf]; omega
            · obtain rfl : k = 8 := by omega
              go_wp2_with fail
              refine ⟨rfl, .tuple #[], results_none rfl _ _ _, rfl, ?_, bw⟩
              rw [hbl.out]
              exact hg2
end Go.Proofs.Ytcaaeimcieooiaa

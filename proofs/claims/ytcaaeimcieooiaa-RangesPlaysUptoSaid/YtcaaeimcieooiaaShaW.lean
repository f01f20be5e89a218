/- What the functions of package sha compute (walks): numbers turned, the state at first. -/
import Derived.Test.YtcaaeimcieooiaaRf
import Derived.Test.YtcaaeimcieooiaaShaM
import Derived.Deep.MidRow
import Derived.Deep.WholeRow
set_option linter.unusedVariables false
set_option linter.unusedSimpArgs false
namespace Go.Proofs.Ytcaaeimcieooiaa
open Go.RowKit

theorem i32_shl (x : UInt32) (yk : IntKind) (n : Nat) (hn : n < 32) : Op.shift .shl .u32 (c32 x) yk (n : Int) = pure (.int .u32 (c32 (x <<< UInt32.ofNat n))) := by
  have hs : Op.shift .shl .u32 (c32 x) yk (n : Int) = pure (.int .u32 (IntKind.u32.wrap (c32 x * 2 ^ min (n : Int).toNat 32))) := shift_shl_any _ _ _ _ (by omega)
  rw [hs]; congr 2
  rw [show min (n : Int).toNat 32 = n by omega, IntKind.wrap_u32']
  unfold c32
  rw [UInt32.toNat_shiftLeft, UInt32.toNat_ofNat', Nat.mod_eq_of_lt (show n < 2 ^ 32 by omega), Nat.mod_eq_of_lt hn, Nat.shiftLeft_eq]
  have e : (2 : Int) ^ n = ((2 ^ n : Nat) : Int) := by simp
  rw [e, ← Int.natCast_mul]; rfl
theorem bits_or32 (x y : UInt32) : bits .or .u32 (c32 x) (c32 y) = c32 (x ||| y) := by
  show (IntKind.u32.wrap ((BitVec.ofInt 32 (c32 x) ||| BitVec.ofInt 32 (c32 y)).toNat : Int)) = _
  rw [bv32, bv32]; exact back32 (x ||| y)
theorem c32_shl (x : UInt32) (n : Nat) (hn : n < 32) : c32 x * 2 ^ n % 4294967296 = c32 (x <<< UInt32.ofNat n) := by
  have := i32_shl x .u32 n hn
  rw [show Op.shift .shl .u32 (c32 x) .u32 (n : Int) = pure (.int .u32 (IntKind.u32.wrap (c32 x * 2 ^ min (n : Int).toNat 32))) from shift_shl_any _ _ _ _ (by omega)] at this
  rw [show min (n : Int).toNat 32 = n by omega, IntKind.wrap_u32'] at this
  injection this with h
  injection h
theorem and31 (n : Nat) (h0 : 0 < n) (hn : n < 32) : bits .and .u64 (IntKind.u64.wrap (-(n : Int))) 31 = ((32 - n : Nat) : Int) := by
  have : ∀ m : Fin 32, 0 < m.val → bits .and .u64 (IntKind.u64.wrap (-(m.val : Int))) 31 = ((32 - m.val : Nat) : Int) := by decide
  exact this ⟨n, hn⟩ h0

attribute [local go_sem high] i32_xor i32_and i32_or i32_not i32_add wrap_8_32 wrap_32_8

set_option maxHeartbeats 400000 in
theorem rotl_any (x : UInt32) (n : Nat) (h0 : 0 < n) (hn : n < 32) (w : World) : Calls Try.prog 47 #[.int .u32 (c32 x), .int .i64 (-(n : Int))] w fun e w' => e = .returned (.int .u32 (c32 (rot x n))) ∧ w = w' := by
  have h1 := and31 n h0 hn
  have h2 : Op.shift .shl .u32 (c32 x) .u64 ((32 - n : Nat) : Int) = _ := i32_shl x .u64 (32 - n) (by omega)
  have h3 : Op.shift .shr .u32 (c32 x) .u64 (n : Int) = _ := i32_shr x .u64 n hn
  have h4 : IntKind.u64.wrap (32 - ((32 - n : Nat) : Int)) = (n : Int) := by rw [IntKind.wrap_u64]; omega
  have h5 : bits .or .u32 (c32 x * 2 ^ (32 - n) % 4294967296) (c32 x / 2 ^ n) = c32 (rot x n) := by
    rw [c32_shl x _ (by omega), c32_div_two_pow x n hn, bits_or32, rot_or]
  go_enter Try.func47, Try.ntmps47
  go_wp2
  go_ret
  exact ⟨rfl, rfl⟩
set_option maxHeartbeats 400000 in
theorem turn_any (x : UInt32) (n : Nat) (h0 : 0 < n) (hn : n < 32) (w : World) : Calls Try.prog 43 #[.int .u32 (c32 x), .int .i64 (n : Int)] w fun e w' => e = .returned (.int .u32 (c32 (rot x n))) ∧ w = w' := by
  have e1 : IntKind.i64.wrap (-(n : Int)) = -(n : Int) := by rw [IntKind.wrap_i64]; omega
  go_enter Try.func43, Try.ntmps43
  go_wp2_with fail
  refine (rotl_any x n h0 hn _).mono ?_
  rintro e w1 ⟨rfl, rfl⟩
  go_wp2
  go_ret
  exact ⟨rfl, rfl⟩
def u32s (xs : List UInt32) : List Value := xs.map fun x => Value.int .u32 (c32 x)
theorem u32s_length (xs : List UInt32) : (u32s xs).length = xs.length := by simp [u32s]
theorem u32s_one (xs : List UInt32) : ∀ v ∈ u32s xs, v.oneCell' = true := by
  intro v hv; obtain ⟨x, _, rfl⟩ := List.mem_map.1 hv; rfl
/-- A result that lies in memory, whole. -/
theorem ret_cell {P : Program} {fn : Func} {R : Ending → World → Prop} {a : Act} {w : World} {x : Tmp} {t : TypeId} {ad : Addr} {v : Value} (hr : fn.results = #[.cell x t]) (hx : a.tmps.getD x undef = .pointer (some ad))
    (hl : (loadVar t ad).run P w = .ok v w) (hd : a.defers = []) (h : R (.returned v) w) : bodyPost P fn R .ret a w := by
  refine ⟨hd, v, ?_, h⟩
  unfold results
  rw [hr]
  rw [Array.getD_eq_getD_getElem?] at hx
  simp [hx, asAddr, Sem.run_bind, hl]
theorem st47 (w : World) (c : Array Value) (ks : List UInt32) (hc : c.size = 64) (hk : ks.length = 64) :
    (storeCells ⟨w.heap.size, 0, none⟩ (u32s ks) 0).run Try.prog (w.alloc (.cells c 80)) = .ok () (w.alloc (.cells (u32s ks).toArray 80)) :=
  run_storeCells_new w _ c (u32s ks).toArray (by simp only [List.size_toArray, u32s_length, hk]; kernel_rfl) (by simp [u32s_length, hk, hc]) (all_oneCell_toArray (u32s_one ks))
theorem shaK_length : shaK.length = 64 := rfl
def partsK : Array (Nat × Operand) := #[(0, Operand.const (Value.int .u32 1116352408)), (1, Operand.const (Value.int .u32 1899447441)), (2, Operand.const (Value.int .u32 3049323471)), (3, Operand.const (Value.int .u32 3921009573)), (4, Operand.const (Value.int .u32 961987163)), (5, Operand.const (Value.int .u32 1508970993)), (6, Operand.const (Value.int .u32 2453635748)), (7, Operand.const (Value.int .u32 2870763221)), (8, Operand.const (Value.int .u32 3624381080)), (9, Operand.const (Value.int .u32 310598401)), (10, Operand.const (Value.int .u32 607225278)), (11, Operand.const (Value.int .u32 1426881987)), (12, Operand.const (Value.int .u32 1925078388)), (13, Operand.const (Value.int .u32 2162078206)), (14, Operand.const (Value.int .u32 2614888103)), (15, Operand.const (Value.int .u32 3248222580)), (16, Operand.const (Value.int .u32 3835390401)), (17, Operand.const (Value.int .u32 4022224774)), (18, Operand.const (Value.int .u32 264347078)), (19, Operand.const (Value.int .u32 604807628)), (20, Operand.const (Value.int .u32 770255983)), (21, Operand.const (Value.int .u32 1249150122)), (22, Operand.const (Value.int .u32 1555081692)), (23, Operand.const (Value.int .u32 1996064986)), (24, Operand.const (Value.int .u32 2554220882)), (25, Operand.const (Value.int .u32 2821834349)), (26, Operand.const (Value.int .u32 2952996808)), (27, Operand.const (Value.int .u32 3210313671)), (28, Operand.const (Value.int .u32 3336571891)), (29, Operand.const (Value.int .u32 3584528711)), (30, Operand.const (Value.int .u32 113926993)), (31, Operand.const (Value.int .u32 338241895)), (32, Operand.const (Value.int .u32 666307205)), (33, Operand.const (Value.int .u32 773529912)), (34, Operand.const (Value.int .u32 1294757372)), (35, Operand.const (Value.int .u32 1396182291)), (36, Operand.const (Value.int .u32 1695183700)), (37, Operand.const (Value.int .u32 1986661051)), (38, Operand.const (Value.int .u32 2177026350)), (39, Operand.const (Value.int .u32 2456956037)), (40, Operand.const (Value.int .u32 2730485921)), (41, Operand.const (Value.int .u32 2820302411)), (42, Operand.const (Value.int .u32 3259730800)), (43, Operand.const (Value.int .u32 3345764771)), (44, Operand.const (Value.int .u32 3516065817)), (45, Operand.const (Value.int .u32 3600352804)), (46, Operand.const (Value.int .u32 4094571909)), (47, Operand.const (Value.int .u32 275423344)), (48, Operand.const (Value.int .u32 430227734)), (49, Operand.const (Value.int .u32 506948616)), (50, Operand.const (Value.int .u32 659060556)), (51, Operand.const (Value.int .u32 883997877)), (52, Operand.const (Value.int .u32 958139571)), (53, Operand.const (Value.int .u32 1322822218)), (54, Operand.const (Value.int .u32 1537002063)), (55, Operand.const (Value.int .u32 1747873779)), (56, Operand.const (Value.int .u32 1955562222)), (57, Operand.const (Value.int .u32 2024104815)), (58, Operand.const (Value.int .u32 2227730452)), (59, Operand.const (Value.int .u32 2361852424)), (60, Operand.const (Value.int .u32 2428436474)), (61, Operand.const (Value.int .u32 2756734187)), (62, Operand.const (Value.int .u32 3204031479)), (63, Operand.const (Value.int .u32 3329325298))]
theorem wpl_build47 {ops : Array Oper} {rest : List Oper} {o : Oper} {a : Act} {w : World} {Q : Exit → Act → World → Prop} (hg : o.guard = none) (ho : o.op = .build 80 partsK)
    (h : wpList Try.prog ops Q rest (a.put o.dst (.agg (u32s shaK).toArray)) w) : wpList Try.prog ops Q (o :: rest) a w := by
  have hb : Try.prog.built 80 (partsK.map fun (i, x) => (i, a.eval x)).toList = some (u32s shaK).toArray := by
    kernel_rfl
  refine wpList_build hg 80 partsK ho (by rw [hb]; rfl) ?_
  rw [hb]; exact h
theorem stK (w : World) : (storeCells ⟨w.heap.size, 0, none⟩ (u32s shaK) 0).run Try.prog (w.alloc (.cells #[Value.int .u32 0, Value.int .u32 0, Value.int .u32 0, Value.int .u32 0, Value.int .u32 0, Value.int .u32 0, Value.int .u32 0, Value.int .u32 0, Value.int .u32 0, Value.int .u32 0, Value.int .u32 0, Value.int .u32 0, Value.int .u32 0, Value.int .u32 0, Value.int .u32 0, Value.int .u32 0, Value.int .u32 0, Value.int .u32 0, Value.int .u32 0, Value.int .u32 0, Value.int .u32 0, Value.int .u32 0, Value.int .u32 0, Value.int .u32 0, Value.int .u32 0, Value.int .u32 0, Value.int .u32 0, Value.int .u32 0, Value.int .u32 0, Value.int .u32 0, Value.int .u32 0, Value.int .u32 0, Value.int .u32 0, Value.int .u32 0, Value.int .u32 0, Value.int .u32 0, Value.int .u32 0, Value.int .u32 0, Value.int .u32 0, Value.int .u32 0, Value.int .u32 0, Value.int .u32 0, Value.int .u32 0, Value.int .u32 0, Value.int .u32 0, Value.int .u32 0, Value.int .u32 0, Value.int .u32 0, Value.int .u32 0, Value.int .u32 0, Value.int .u32 0, Value.int .u32 0, Value.int .u32 0, Value.int .u32 0, Value.int .u32 0, Value.int .u32 0, Value.int .u32 0, Value.int .u32 0, Value.int .u32 0, Value.int .u32 0, Value.int .u32 0, Value.int .u32 0, Value.int .u32 0, Value.int .u32 0] 80)) = .ok () (w.alloc (.cells (u32s shaK).toArray 80)) := st47 w _ _ rfl rfl
attribute [local go_sem high] stK
attribute [local go_sem high] shaK_length
set_option maxRecDepth 10000 in
set_option maxHeartbeats 400000 in
theorem const_any (w : World) : Calls Try.prog 44 #[] w fun e w' => e = .returned (.agg (u32s shaK).toArray) ∧ Below w.heap.size w w' := by
  go_enter Try.func44, Try.ntmps44
  go_wp2_with (refine wpl_build47 rfl rfl ?_)
  refine ret_cell (v := .agg (u32s shaK).toArray) Try.results44 rfl ?_ rfl ⟨rfl, ext_alloc _ _⟩
  exact run_loadVar_new (P := Try.prog) w 80 (u32s shaK).toArray 64 73 (by kernel_rfl) (by kernel_rfl)
set_option maxHeartbeats 400000 in
theorem first_any (w : World) : Calls Try.prog 38 #[] w fun e w' => e = .returned (.agg (u32s first8.list).toArray) ∧ Below w.heap.size w w' := by
  go_enter Try.func38, Try.ntmps38
  go_wp2
  refine bodyPost_ret (v := .agg (u32s first8.list).toArray) (by simp [results, Try.results38, go_sem]; rfl) rfl ⟨rfl, ext_alloc _ _⟩

def zeros64 : List UInt8 := List.replicate 64 0
/-- The cells of a state. -/
def stCells (s : S8) (rest : List UInt8) (n : Nat) (made : Bool) : List Value := u32s s.list ++ bs rest ++ [.int .u64 n, .bool made]
theorem stCells_length (s : S8) (rest : List UInt8) (n : Nat) (made : Bool) (h : rest.length = 64) : (stCells s rest n made).length = 74 := by
  simp [stCells, u32s, bs, S8.list, h]
theorem wpl_build55 {ops : Array Oper} {rest : List Oper} {o : Oper} {a : Act} {w : World} {Q : Exit → Act → World → Prop} (s : S8) (x : Tmp) (hg : o.guard = none) (ho : o.op = .build 78 #[(0, .tmp x), (3, .const (.bool true))])
    (hx : a.eval (.tmp x) = .agg (u32s s.list).toArray)
    (h : wpList Try.prog ops Q rest (a.put o.dst (.agg (stCells s zeros64 0 true).toArray)) w) : wpList Try.prog ops Q (o :: rest) a w := by
  have hb : Try.prog.built 78 ((#[(0, .tmp x), (3, .const (.bool true))] : Array (Nat × Operand)).map fun (i, x) => (i, a.eval x)).toList = some (stCells s zeros64 0 true).toArray := by
    have e : ((#[(0, .tmp x), (3, .const (.bool true))] : Array (Nat × Operand)).map fun (i, x) => (i, a.eval x)).toList = [(0, .agg (u32s s.list).toArray), (3, .bool true)] := by simp [hx]; rfl
    have k : Try.prog.built 78 [(0, .agg (u32s s.list).toArray), (3, .bool true)] = some (stCells s zeros64 0 true).toArray := by kernel_rfl
    rw [e]; exact k
  refine wpList_build hg 78 _ ho (by rw [hb]; rfl) ?_
  rw [hb]; exact h

/-- At g lies a state to which these bytes were written. -/
def St (w : World) (g : Nat) (xs : List UInt8) : Prop :=
  xs.length ≤ 4611686018427387904 ∧ ∃ rest : List UInt8, rest.length = 64 ∧ rest.take (xs.length % 64) = xs.drop (xs.length / 64 * 64) ∧
    w.heap[g]? = some (.cells (stCells (shaState xs) rest xs.length true).toArray 78 (0, 0))
theorem St.kept {w w' : World} {g : Nat} {xs : List UInt8} {row : Option Nat} (h : St w g xs) (hg : w.grownBy w' row) (hne : some g ≠ row) : St w' g xs := by
  obtain ⟨h1, rest, h2, h3, h4⟩ := h
  exact ⟨h1, rest, h2, h3, (hg.block g (Array.getElem?_eq_some_iff.1 h4).1 hne).trans h4⟩
theorem St.lt {w : World} {g : Nat} {xs : List UInt8} (h : St w g xs) : g < w.heap.size := by
  obtain ⟨h1, rest, h2, h3, h4⟩ := h
  exact (Array.getElem?_eq_some_iff.1 h4).1
theorem St.below {w w' : World} {g : Nat} {xs : List UInt8} (h : St w g xs) (hb : Below w.heap.size w w') : St w' g xs := by
  have := h.lt
  obtain ⟨h1, rest, h2, h3, h4⟩ := h
  exact ⟨h1, rest, h2, h3, (hb.block g this).trans h4⟩

set_option maxHeartbeats 400000 in
theorem new_any (w : World) : Calls Try.prog 30 #[] w fun e w' => ∃ g, e = .returned (.pointer (some ⟨g, 0, none⟩)) ∧ w.heap.size ≤ g ∧ St w' g [] ∧ Below w.heap.size w w' := by
  go_enter Try.func30, Try.ntmps30
  go_wp2_with fail
  refine (first_any _).mono ?_
  rintro e w1 ⟨rfl, b1⟩
  go_wp2_with (refine wpl_build55 first8 1 rfl rfl rfl ?_)
  go_ret
  refine ⟨_, rfl, b1.size, ⟨by simp, zeros64, rfl, rfl, heap_alloc_new _ _⟩, Ext.trans b1 (ext_alloc _ _)⟩
end Go.Proofs.Ytcaaeimcieooiaa

/- Powers in digits: the reference's power (walk). -/
import Derived.Test.YtbdgnlbbijpfmaaShaV
import Derived.Test.YtbdgnlbbijpfmaaShaE
import Derived.Test.YtbdgnlbbijpfmaaShaI
import Derived.Test.YtbdgnlbbijpfmaaAt
import Derived.Test.YtbdgnlbbijpfmaaSg
set_option linter.unusedVariables false
set_option linter.unusedSimpArgs false
namespace Go.Proofs.Ytbdgnlbbijpfmaa
open Go.RowKit

/-- Numbers of 64 bits as cells. -/
def ns (L : List Nat) : List Value := L.map fun n : Nat => Value.int .u64 (n : Int)
theorem ns_length (L : List Nat) : (ns L).length = L.length := by simp [ns]
theorem ns_one (L : List Nat) : ∀ u ∈ ns L, u.oneCell' = true := by
  intro u hu; obtain ⟨_, _, rfl⟩ := List.mem_map.1 hu; rfl
def RowN (w : World) (B : Nat) (L : List Nat) : Prop := w.heap[B]? = some (.cells (ns L).toArray 59 (0, 0))
theorem RowN.below {w w' : World} {B : Nat} {L : List Nat} (h : RowN w B L) (hb : Below w.heap.size w w') : RowN w' B L := (hb.block B (Array.getElem?_eq_some_iff.1 h).1).trans h
theorem RowN.at {w w' : World} {B V : Nat} {L : List Nat} (h : RowN w B L) (hb : Below V w w') (hV : B < V) : RowN w' B L := (hb.block B hV).trans h
theorem RowN.lt {w : World} {B : Nat} {L : List Nat} (h : RowN w B L) : B < w.heap.size := (Array.getElem?_eq_some_iff.1 h).1
theorem RowN.cell {w : World} {B : Nat} {L : List Nat} (h : RowN w B L) {j : Nat} (hj : j < L.length) : w.cell? ⟨B, j, none⟩ = some (.int .u64 ((L.getD j 0 : Nat) : Int)) ∧ w.frozen? ⟨B, j, none⟩ = false := by
  refine ⟨?_, frozen_of_row _ _ _ _ _ h⟩
  rw [cell_of_row _ _ _ _ _ _ h]
  simp [ns, hj]
theorem RowN.set {w : World} {B : Nat} {L : List Nat} (h : RowN w B L) (j x : Nat) : RowN (w.setCell ⟨B, j, none⟩ (.int .u64 (x : Int))) B (L.set j x) := by
  unfold RowN at h ⊢
  rw [heap_setCell_same w B j _ _ _ h]
  simp [ns, List.map_set]
theorem RowN.range {w : World} {B : Nat} {L : List Nat} (h : RowN w B L) : w.rangeAt B 0 (ns L) := fun j v hj => by
  have hlt : j < L.length := by have := (List.getElem?_eq_some_iff.1 hj).1; rwa [ns_length] at this
  rw [Nat.zero_add, (h.cell hlt).1, ← hj]; simp [ns, hlt]
theorem RowN.setRow {w : World} {B : Nat} {L : List Nat} (h : RowN w B L) (M : List Nat) : RowN (w.setRow B (ns M).toArray) B M := setRow_heap w B _ _ _ _ h
theorem RowN.other {w : World} {B D : Nat} {L : List Nat} (h : RowN w B L) (hne : B ≠ D) (cs : Array Value) : RowN (w.setRow D cs) B L := (heap_setRow_other w D B cs hne).trans h
theorem info12 {L : List Nat} (hl : L.length = 12) : (Try.prog.info? 59).map (·.size) = some (ns L).length := by rw [ns_length, hl]; kernel_rfl
theorem und12 : Try.prog.underlying 59 = some (.array 12 41) := by kernel_rfl
theorem wpl_load12 {ops : Array Oper} {rest : List Oper} {o : Oper} {a : Act} {w : World} {Q : Exit → Act → World → Prop} {L : List Nat} {B : Nat} (hB : RowN w B L) (hg : o.guard = none) (hx : L.length = 12) (p : Operand) (ho : o.op = .load 59 p) (hp : a.eval p = .pointer (some ⟨B, 0, none⟩))
    (h : wpList Try.prog ops Q rest (a.put o.dst (.agg (ns L).toArray)) w) : wpList Try.prog ops Q (o :: rest) a w :=
  wpList_load_mid hg 59 _ ho B 0 hp _ _ hB.range und12 rfl (info12 hx) h
theorem wpl_store12 {ops : Array Oper} {rest : List Oper} {o : Oper} {a : Act} {w : World} {Q : Exit → Act → World → Prop} {L M : List Nat} {B : Nat} (hB : RowN w B L) (hg : o.guard = none) (hL : L.length = 12) (hM : M.length = 12) (p y : Operand) (ho : o.op = .store 59 p y) (hp : a.eval p = .pointer (some ⟨B, 0, none⟩)) (hy : a.eval y = .agg (ns M).toArray)
    (h : wpList Try.prog ops Q rest (a.put o.dst undef) (w.setRow B (ns M).toArray)) : wpList Try.prog ops Q (o :: rest) a w :=
  wpList_plain hg fun _ hK => wp_store_row 59 p y ho B (ns M).toArray hp hy 59 _ hB (by rw [List.size_toArray]; exact info12 hM) (by simp [ns_length, hL, hM]) (all_oneCell_toArray (ns_one _)) (hK _ _ h)
theorem loadVar12 {w : World} {B : Nat} {L : List Nat} (h : RowN w B L) (hl : L.length = 12) : (loadVar 59 ⟨B, 0, none⟩).run Try.prog w = .ok (.agg (ns L).toArray) w :=
  run_loadVar_row (P := Try.prog) w B 59 59 (ns L).toArray (0, 0) _ h und12 rfl (by rw [List.size_toArray]; exact info12 hl)
theorem zero12 (w : World) : (zeroValue 59).run Try.prog w = .ok (.agg (ns zer12).toArray) w :=
  (zero_of_info (P := Try.prog) (t := 59) (v := .agg (ns zer12).toArray) (n := 12) (by kernel_rfl)).1 w
theorem row12_new (w : World) (L : List Nat) : RowN (w.alloc (.cells (ns L).toArray 59 (0, 0))) w.heap.size L := heap_alloc_new _ _
theorem mul_wrap (a b : Nat) : IntKind.u64.wrap ((a : Int) * b) = ((a * b % 18446744073709551616 : Nat) : Int) := by
  rw [IntKind.wrap_u64, show (a : Int) * b = ((a * b : Nat) : Int) by simp]; omega
theorem add_wrap (a b : Nat) : IntKind.u64.wrap ((a : Int) + b) = (((a + b) % 18446744073709551616 : Nat) : Int) := by
  rw [IntKind.wrap_u64]; omega
theorem div_wrap (q : Nat) : IntKind.u64.wrap ((q : Int) / 65536) = ((q / 65536 % 18446744073709551616 : Nat) : Int) := by rw [IntKind.wrap_u64]; omega
theorem tmod_cast (y : Nat) : ((y : Nat) : Int).tmod 65536 = ((y % 65536 : Nat) : Int) := by rw [Int.tmod_eq_emod_of_nonneg (by omega)]; omega
set_option maxRecDepth 10000 in
set_option maxHeartbeats 8000000 in
theorem power_any (x n : Nat) (w : World) (hx : x < 18446744073709551616) (hn : n ≤ 3) :
    Calls Try.prog 29 #[.int .u64 (x : Int), .int .i64 (n : Int)] w fun e w' => e = .returned (.agg (ns (powN x n)).toArray) ∧ Below w.heap.size w w' := by
  have hz := zero12
  go_enter Try.func29, Try.ntmps29
  go_wp2_with fail
  have e1 := ext_alloc w (.cells (ns zer12).toArray 59 (0, 0))
  have e2 := ext_alloc (w.alloc (.cells (ns zer12).toArray 59 (0, 0))) (.cells ((ns zer12).set 0 (.int .u64 1)).toArray 59 (0, 0))
  have rR : RowN _ w.heap.size zer12 := (row12_new w zer12).below e2
  have rP := row12_new (w.alloc (.cells (ns zer12).toArray 59 (0, 0))) (powN x 0)
  rw [size_alloc] at rP
  have bw := Ext.trans e1 e2
  change RowN ((w.alloc (.cells (ns zer12).toArray 59 (0, 0))).alloc (.cells ((ns zer12).set 0 (.int .u64 1)).toArray 59 (0, 0))) (w.heap.size + 1) (powN x 0) at rP
  generalize ((w.alloc (.cells (ns zer12).toArray 59 (0, 0))).alloc (.cells ((ns zer12).set 0 (.int .u64 1)).toArray 59 (0, 0))) = W at *
  clear e1 e2
  go_loopw [6] (fun ik wr => ∃ k : Nat, k ≤ n ∧ ik = .int .i64 k ∧ RowN wr w.heap.size zer12 ∧ RowN wr (w.heap.size + 1) (powN x k) ∧ Below w.heap.size w wr) (fun ik _ => n - (intOf ik).toNat)
  case atStart => exact ⟨0, by omega, rfl, rR, rP, bw⟩
  case round =>
    clear rR rP bw
    obtain ⟨k, hk, rfl, rR, rP, bw⟩ := hrel
    generalize wr = W1 at *
    by_cases hlt : k < n
    · have hltI : (k : Int) < n := by omega
      have rQ := row12_new W1 zer12
      have zV := size_alloc W1 (.cells (ns zer12).toArray 59 (0, 0))
      have ltP := rP.lt
      have hpl := powN_length x k
      generalize hV : W1.heap.size = V at *
      have eV : Below V W1 (W1.alloc (.cells (ns zer12).toArray 59 (0, 0))) := by rw [← hV]; exact ext_alloc _ _
      have hst0 : Hid (stepN (powN x k) x 12 = powN x (k + 1)) := rfl
      have rQ0 : RowN _ V (stepN (powN x k) x 0) := rQ
      generalize hp : powN x k = p at *
      replace hp : Hid _ := hp
      have hsl := stepN_length p x
      clear rQ
      go_wp2_with fail
      generalize hW0 : W1.alloc (.cells (ns zer12).toArray 59 (0, 0)) = W0 at *
      clear hW0
      replace hV : Hid _ := hV
      have hVw : w.heap.size + 1 < V := ltP
      have hVz : W0.heap.size = V + 1 := zV
      clear zV ltP
      go_loopw [8] (fun ii w2 => ∃ i : Nat, i ≤ 12 ∧ ii = .int .i64 i ∧ RowN w2 V (stepN p x i) ∧ Below V W1 w2) (fun ii _ => 12 - (intOf ii).toNat)
      case atStart => exact ⟨0, by omega, rfl, rQ0, eV⟩
      case round =>
        clear rQ0 eV hVz
        obtain ⟨i, hi, rfl, rQ, b2⟩ := hrel
        generalize wr = W2 at *
        have rP2 := rP.at b2 hVw
        have hsi := hsl i
        by_cases hi12 : i < 12
        · have hiI : (i : Int) < 12 := by omega
          have hstep : Hid (carN (mulN (stepN p x i) (p.getD i 0) i x (12 - i)) 11 = stepN p x (i + 1)) := rfl
          generalize hs0 : stepN p x i = s at *
          replace hs0 : Hid _ := hs0
          go_wp2_with fail
          go_loopw [9, 10] (fun yy ij w3 => ∃ j : Nat, j ≤ 12 - i ∧ ij = .int .i64 j ∧ yy = .int .u64 ((x / 65536 ^ j : Nat) : Int) ∧ RowN w3 V (mulN s (p.getD i 0) i x j) ∧ RowN w3 (w.heap.size + 1) p ∧ Below V W1 w3) (fun _ ij _ => 12 - (intOf ij).toNat)
          case atStart => exact ⟨0, by omega, rfl, by simp, rQ, rP2, b2⟩
          case round =>
            clear rQ rP2 b2
            obtain ⟨j, hj, rfl, rfl, rQ, rP3, b3⟩ := hrel
            have w0 : IntKind.i64.wrap ((i : Int) + j) = (i : Int) + j := by rw [IntKind.wrap_i64]; omega
            have wn : ((i : Int) + j).toNat = i + j := by omega
            by_cases hj12 : i + j < 12
            · have hjI : (i : Int) + j < 12 := by omega
              have hml := mulN_length s (p.getD i 0) i x j
              rw [hsi] at hml
              have cQ := rQ.cell (j := i + j) (by omega)
              have cP := rP3.cell (j := i) (by omega)
              have hnx : Hid (mulN s (p.getD i 0) i x (j + 1) = (mulN s (p.getD i 0) i x j).set (i + j) (((mulN s (p.getD i 0) i x j).getD (i + j) 0 + p.getD i 0 * (x / 65536 ^ j % 65536) % 18446744073709551616) % 18446744073709551616)) := rfl
              have hy2 : Hid (x / 65536 ^ (j + 1) = x / 65536 ^ j / 65536) := by unfold Hid; rw [Nat.pow_succ, Nat.div_div_eq_div_mul]
              generalize hpi : p.getD i 0 = pi at *
              replace hpi : Hid _ := hpi
              generalize hm : mulN s pi i x j = m at *
              replace hm : Hid _ := hm
              have hset := RowN.set (w := wr.drew) rQ (i + j) ((m.getD (i + j) 0 + pi * (x / 65536 ^ j % 65536) % 18446744073709551616) % 18446744073709551616)
              rw [← hnx.out] at hset
              generalize hq : m.getD (i + j) 0 = q at *
              generalize hyy : x / 65536 ^ j = y at *
              have e1 := mul_wrap pi (y % 65536)
              have e2 := add_wrap q (pi * (y % 65536) % 18446744073709551616)
              have hcur : Below wr.heap.size wr wr := Below.refl _ _
              have e0 := Ext.refl wr
              obtain ⟨cQ1, cQ2⟩ := cQ
              have fQ := fun (w' : World) (h : Ext wr w') => (h.cell (World.block_lt_of_cell? _ _ cQ1)).trans cQ1
              have fP := fun (w' : World) (h : Ext wr w') => (h.cell (World.block_lt_of_cell? _ _ cP.1)).trans cP.1
              replace hset : Hid _ := hset
              replace hq : Hid _ := hq
              have hyb : y ≤ x := by rw [← hyy]; exact Nat.div_le_self _ _
              have e3 : IntKind.u64.wrap ((y : Int) / 65536) = (y : Int) / 65536 := by rw [IntKind.wrap_u64]; omega
              replace hyy : Hid _ := hyy
              clear rQ cP
              go_wp2_with fail
              refine wp_region_F 13 (by kernel_rfl) (fun hcl => ?_)
              replace hcur := below_via hcur (ext_drew _)
              replace e0 := Ext.trans e0 (ext_drew _)
              refine wpAnyF_take (fin := 13) (i := 0) (v := ?_) hcl (some 29) rfl rfl (by kernel_rfl) (by kernel_rfl) (by kernel_rfl) (fun _ _ _ h => h) (by kernel_rfl) ?_ (fun hcl => ?_)
              rotate_left 1
              · (refine Or.inl ⟨by rfl, ?_⟩; intro w' hw'; have hq := below_via hcur hw'; have hq_e0 := Ext.trans e0 hw'; (try go_simp); (try rfl); done)
              try simp only [Act.put, List.setIfInBounds_toArray, List.set_cons_zero, List.set_cons_succ]
              refine wpAnyF_take (fin := 13) (i := 1) (v := ?_) hcl (some 30) rfl rfl (by kernel_rfl) (by kernel_rfl) (by kernel_rfl) (fun _ _ _ h => h) (by kernel_rfl) ?_ (fun hcl => ?_)
              rotate_left 1
              · (refine Or.inl ⟨by rfl, ?_⟩; intro w' hw'; have hq := below_via hcur hw'; have hq_e0 := Ext.trans e0 hw'; (try go_simp); (try rfl); done)
              try simp only [Act.put, List.setIfInBounds_toArray, List.set_cons_zero, List.set_cons_succ]
              refine wpAnyF_take (fin := 13) (i := 2) (v := ?_) hcl (some 31) rfl rfl (by kernel_rfl) (by kernel_rfl) (by kernel_rfl) (fun _ _ _ h => h) (by kernel_rfl) ?_ (fun hcl => ?_)
              rotate_left 1
              · (refine Or.inl ⟨by rfl, ?_⟩; intro w' hw'; have hq := below_via hcur hw'; have hq_e0 := Ext.trans e0 hw'; (try go_simp); (try rfl); done)
              try simp only [Act.put, List.setIfInBounds_toArray, List.set_cons_zero, List.set_cons_succ]
              refine wpAnyF_take (fin := 13) (i := 3) (v := ?_) hcl (some 32) rfl rfl (by kernel_rfl) (by kernel_rfl) (by kernel_rfl) (fun _ _ _ h => h) (by kernel_rfl) ?_ (fun hcl => ?_)
              rotate_left 1
              · (refine Or.inl ⟨by rfl, ?_⟩; intro w' hw'; have hq := below_via hcur hw'; have hq_e0 := Ext.trans e0 hw'; (try go_simp); (try rfl); done)
              try simp only [Act.put, List.setIfInBounds_toArray, List.set_cons_zero, List.set_cons_succ]
              refine wpAnyF_take (fin := 13) (i := 4) (v := ?_) hcl (some 33) rfl rfl (by kernel_rfl) (by kernel_rfl) (by kernel_rfl) (fun _ _ _ h => h) (by kernel_rfl) ?_ (fun hcl => ?_)
              rotate_left 1
              · (refine Or.inl ⟨by rfl, ?_⟩; intro w' hw'; have hq := below_via hcur hw'; have hq_e0 := Ext.trans e0 hw'; have hcl := fQ _ hq_e0; (try go_simp); (try rfl); done)
              try simp only [Act.put, List.setIfInBounds_toArray, List.set_cons_zero, List.set_cons_succ]
              refine wpAnyF_take (fin := 13) (i := 5) (v := ?_) hcl (some 34) rfl rfl (by kernel_rfl) (by kernel_rfl) (by kernel_rfl) (fun _ _ _ h => h) (by kernel_rfl) ?_ (fun hcl => ?_)
              rotate_left 1
              · (refine Or.inl ⟨by rfl, ?_⟩; intro w' hw'; have hq := below_via hcur hw'; have hq_e0 := Ext.trans e0 hw'; (try go_simp); (try rfl); done)
              try simp only [Act.put, List.setIfInBounds_toArray, List.set_cons_zero, List.set_cons_succ]
              refine wpAnyF_take (fin := 13) (i := 6) (v := ?_) hcl (some 35) rfl rfl (by kernel_rfl) (by kernel_rfl) (by kernel_rfl) (fun _ _ _ h => h) (by kernel_rfl) ?_ (fun hcl => ?_)
              rotate_left 1
              · (refine Or.inl ⟨by rfl, ?_⟩; intro w' hw'; have hq := below_via hcur hw'; have hq_e0 := Ext.trans e0 hw'; (try go_simp); (try rfl); done)
              try simp only [Act.put, List.setIfInBounds_toArray, List.set_cons_zero, List.set_cons_succ]
              refine wpAnyF_take (fin := 13) (i := 7) (v := ?_) hcl (some 36) rfl rfl (by kernel_rfl) (by kernel_rfl) (by kernel_rfl) (fun _ _ _ h => h) (by kernel_rfl) ?_ (fun hcl => ?_)
              rotate_left 1
              · (refine Or.inl ⟨by rfl, ?_⟩; intro w' hw'; have hq := below_via hcur hw'; have hq_e0 := Ext.trans e0 hw'; have hcl := fP _ hq_e0; (try go_simp); (try rfl); done)
              try simp only [Act.put, List.setIfInBounds_toArray, List.set_cons_zero, List.set_cons_succ]
              refine wpAnyF_take (fin := 13) (i := 8) (v := ?_) hcl (some 37) rfl rfl (by kernel_rfl) (by kernel_rfl) (by kernel_rfl) (fun _ _ _ h => h) (by kernel_rfl) ?_ (fun hcl => ?_)
              rotate_left 1
              · (refine Or.inl ⟨by rfl, ?_⟩; intro w' hw'; have hq := below_via hcur hw'; have hq_e0 := Ext.trans e0 hw'; (try go_simp); (try rfl); done)
              try simp only [Act.put, List.setIfInBounds_toArray, List.set_cons_zero, List.set_cons_succ]
              refine wpAnyF_take (fin := 13) (i := 9) (v := ?_) hcl (some 38) rfl rfl (by kernel_rfl) (by kernel_rfl) (by kernel_rfl) (fun _ _ _ h => h) (by kernel_rfl) ?_ (fun hcl => ?_)
              rotate_left 1
              · (refine Or.inl ⟨by rfl, ?_⟩; intro w' hw'; have hq := below_via hcur hw'; have hq_e0 := Ext.trans e0 hw'; (try go_simp); (try rfl); done)
              try simp only [Act.put, List.setIfInBounds_toArray, List.set_cons_zero, List.set_cons_succ]
              refine wpAnyF_take (fin := 13) (i := 10) (v := ?_) hcl (some 39) rfl rfl (by kernel_rfl) (by kernel_rfl) (by kernel_rfl) (fun _ _ _ h => h) (by kernel_rfl) ?_ (fun hcl => ?_)
              rotate_left 1
              · (refine Or.inl ⟨by rfl, ?_⟩; intro w' hw'; have hq := below_via hcur hw'; have hq_e0 := Ext.trans e0 hw'; (try go_simp); (try rfl); done)
              try simp only [Act.put, List.setIfInBounds_toArray, List.set_cons_zero, List.set_cons_succ]
              refine wpAnyF_take (fin := 13) (i := 11) (v := ?_) hcl (some 40) rfl rfl (by kernel_rfl) (by kernel_rfl) (by kernel_rfl) (fun _ _ _ h => h) (by kernel_rfl) ?_ (fun hcl => ?_)
              rotate_left 1
              · (refine Or.inl ⟨by rfl, ?_⟩; intro w' hw'; have hq := below_via hcur hw'; have hq_e0 := Ext.trans e0 hw'; (try go_simp); (try rfl); done)
              try simp only [Act.put, List.setIfInBounds_toArray, List.set_cons_zero, List.set_cons_succ]
              refine wpAnyF_take (fin := 13) (i := 12) (v := ?_) hcl (some 41) rfl rfl (by kernel_rfl) (by kernel_rfl) (by kernel_rfl) (fun _ _ _ h => h) (by kernel_rfl) ?_ (fun hcl => ?_)
              rotate_left 1
              · (refine Or.inl ⟨by rfl, ?_⟩; intro w' hw'; have hq := below_via hcur hw'; have hq_e0 := Ext.trans e0 hw'; (try go_simp); (try rfl); done)
              try simp only [Act.put, List.setIfInBounds_toArray, List.set_cons_zero, List.set_cons_succ]
              refine wpAnyF_last (fin := 13) rfl (by kernel_rfl) (by kernel_rfl) (by rfl) (fun K hK => ?_)
              go_simp
              refine hK.out _ _ ?_
              clear hK K hcl
              rw [tmod_cast, e1, e2]
              have hb4 := below_setCell (k := i + j) b3.drew (Nat.le_refl V) (.int .u64 (((q + pi * (y % 65536) % 18446744073709551616) % 18446744073709551616 : Nat) : Int))
              have hr4 : RowN _ V (mulN s pi i x (j + 1)) := hset.out
              clear hset e1 e2 cQ1 cQ2 fQ fP
              clear hyb
              generalize (q + pi * (y % 65536) % 18446744073709551616) % 18446744073709551616 = nv at *
              go_wp2_with fail
              go_roundw
              case rel => exact ⟨j + 1, by omega, by go_num, by rw [hy2.out]; go_num, hr4, rP.at hb4 hVw, hb4⟩
              case measure => simp [intOf]; omega
            · have hje : Hid (j = 12 - i) := by unfold Hid; omega
              have hjI : ¬ (i : Int) + j < 12 := by omega
              have hml := mulN_length s (p.getD i 0) i x j
              rw [hsi] at hml
              rw [← hje.out] at hstep
              generalize hm : mulN s (p.getD i 0) i x j = m at *
              replace hm : Hid _ := hm
              clear rP3
              go_wp2_with fail
              go_loopw [11] (fun ij w4 => ∃ j : Nat, j ≤ 11 ∧ ij = .int .i64 j ∧ RowN w4 V (carN m j) ∧ Below V W1 w4) (fun ij _ => 12 - (intOf ij).toNat)
              case atStart => exact ⟨0, by omega, rfl, rQ, b3⟩
              case round =>
                clear rQ b3
                obtain ⟨j, hj2, rfl, rQ, b3⟩ := hrel
                by_cases hj11 : j < 11
                · have hjI : (j : Int) < 11 := by omega
                  have w1 : IntKind.i64.wrap ((j : Int) + 1) = (j : Int) + 1 := by rw [IntKind.wrap_i64]; omega
                  have wn1 : ((j : Int) + 1).toNat = j + 1 := by omega
                  have hjI2 : (j : Int) + 1 < 12 := by omega
                  have hjI3 : (j : Int) < 12 := by omega
                  have hcl := carN_length m j
                  rw [hml] at hcl
                  have hal := carA_length (carN m j) j
                  rw [hcl] at hal
                  have hnx : Hid (carN m (j + 1) = (carA (carN m j) j).set j ((carA (carN m j) j).getD j 0 % 65536)) := rfl
                  have hax : Hid (carA (carN m j) j = (carN m j).set (j + 1) (((carN m j).getD (j + 1) 0 + (carN m j).getD j 0 / 65536 % 18446744073709551616) % 18446744073709551616)) := rfl
                  have c1 := rQ.cell (j := j + 1) (by omega)
                  have c0 := rQ.cell (j := j) (by omega)
                  have hset := RowN.set (w := wr.drew) rQ (j + 1) (((carN m j).getD (j + 1) 0 + (carN m j).getD j 0 / 65536 % 18446744073709551616) % 18446744073709551616)
                  rw [← hax.out] at hset
                  generalize carA (carN m j) j = ca at *
                  generalize carN m j = cm at *
                  generalize cm.getD (j + 1) 0 = q1 at *
                  generalize cm.getD j 0 = q0 at *
                  have e2 := add_wrap q1 (q0 / 65536 % 18446744073709551616)
                  have hcur : Below wr.heap.size wr wr := Below.refl _ _
                  have e0 := Ext.refl wr
                  obtain ⟨c11, c12⟩ := c1
                  have f1 := fun (w' : World) (h : Ext wr w') => (h.cell (World.block_lt_of_cell? _ _ c11)).trans c11
                  have f0 := fun (w' : World) (h : Ext wr w') => (h.cell (World.block_lt_of_cell? _ _ c0.1)).trans c0.1
                  replace hset : Hid _ := hset
                  clear rQ c0
                  go_wp2_with fail
                  refine wp_region_F 10 (by kernel_rfl) (fun hcl => ?_)
                  replace hcur := below_via hcur (ext_drew _)
                  replace e0 := Ext.trans e0 (ext_drew _)
                  refine wpAnyF_take (fin := 10) (i := 0) (v := ?_) hcl (some 48) rfl rfl (by kernel_rfl) (by kernel_rfl) (by kernel_rfl) (fun _ _ _ h => h) (by kernel_rfl) ?_ (fun hcl => ?_)
                  rotate_left 1
                  · (refine Or.inl ⟨by rfl, ?_⟩; intro w' hw'; have hq := below_via hcur hw'; have hq_e0 := Ext.trans e0 hw'; (try go_simp); (try rfl); done)
                  try simp only [Act.put, List.setIfInBounds_toArray, List.set_cons_zero, List.set_cons_succ]
                  refine wpAnyF_take (fin := 10) (i := 1) (v := ?_) hcl (some 49) rfl rfl (by kernel_rfl) (by kernel_rfl) (by kernel_rfl) (fun _ _ _ h => h) (by kernel_rfl) ?_ (fun hcl => ?_)
                  rotate_left 1
                  · (refine Or.inl ⟨by rfl, ?_⟩; intro w' hw'; have hq := below_via hcur hw'; have hq_e0 := Ext.trans e0 hw'; (try go_simp); (try rfl); done)
                  try simp only [Act.put, List.setIfInBounds_toArray, List.set_cons_zero, List.set_cons_succ]
                  refine wpAnyF_take (fin := 10) (i := 2) (v := ?_) hcl (some 50) rfl rfl (by kernel_rfl) (by kernel_rfl) (by kernel_rfl) (fun _ _ _ h => h) (by kernel_rfl) ?_ (fun hcl => ?_)
                  rotate_left 1
                  · (refine Or.inl ⟨by rfl, ?_⟩; intro w' hw'; have hq := below_via hcur hw'; have hq_e0 := Ext.trans e0 hw'; (try go_simp); (try rfl); done)
                  try simp only [Act.put, List.setIfInBounds_toArray, List.set_cons_zero, List.set_cons_succ]
                  refine wpAnyF_take (fin := 10) (i := 3) (v := ?_) hcl (some 51) rfl rfl (by kernel_rfl) (by kernel_rfl) (by kernel_rfl) (fun _ _ _ h => h) (by kernel_rfl) ?_ (fun hcl => ?_)
                  rotate_left 1
                  · (refine Or.inl ⟨by rfl, ?_⟩; intro w' hw'; have hq := below_via hcur hw'; have hq_e0 := Ext.trans e0 hw'; have hcl := f1 _ hq_e0; (try go_simp); (try rfl); done)
                  try simp only [Act.put, List.setIfInBounds_toArray, List.set_cons_zero, List.set_cons_succ]
                  refine wpAnyF_take (fin := 10) (i := 4) (v := ?_) hcl (some 52) rfl rfl (by kernel_rfl) (by kernel_rfl) (by kernel_rfl) (fun _ _ _ h => h) (by kernel_rfl) ?_ (fun hcl => ?_)
                  rotate_left 1
                  · (refine Or.inl ⟨by rfl, ?_⟩; intro w' hw'; have hq := below_via hcur hw'; have hq_e0 := Ext.trans e0 hw'; (try go_simp); (try rfl); done)
                  try simp only [Act.put, List.setIfInBounds_toArray, List.set_cons_zero, List.set_cons_succ]
                  refine wpAnyF_take (fin := 10) (i := 5) (v := ?_) hcl (some 53) rfl rfl (by kernel_rfl) (by kernel_rfl) (by kernel_rfl) (fun _ _ _ h => h) (by kernel_rfl) ?_ (fun hcl => ?_)
                  rotate_left 1
                  · (refine Or.inl ⟨by rfl, ?_⟩; intro w' hw'; have hq := below_via hcur hw'; have hq_e0 := Ext.trans e0 hw'; (try go_simp); (try rfl); done)
                  try simp only [Act.put, List.setIfInBounds_toArray, List.set_cons_zero, List.set_cons_succ]
                  refine wpAnyF_take (fin := 10) (i := 6) (v := ?_) hcl (some 54) rfl rfl (by kernel_rfl) (by kernel_rfl) (by kernel_rfl) (fun _ _ _ h => h) (by kernel_rfl) ?_ (fun hcl => ?_)
                  rotate_left 1
                  · (refine Or.inl ⟨by rfl, ?_⟩; intro w' hw'; have hq := below_via hcur hw'; have hq_e0 := Ext.trans e0 hw'; have hcl := f0 _ hq_e0; (try go_simp); (try rfl); done)
                  try simp only [Act.put, List.setIfInBounds_toArray, List.set_cons_zero, List.set_cons_succ]
                  refine wpAnyF_take (fin := 10) (i := 7) (v := ?_) hcl (some 55) rfl rfl (by kernel_rfl) (by kernel_rfl) (by kernel_rfl) (fun _ _ _ h => h) (by kernel_rfl) ?_ (fun hcl => ?_)
                  rotate_left 1
                  · (refine Or.inl ⟨by rfl, ?_⟩; intro w' hw'; have hq := below_via hcur hw'; have hq_e0 := Ext.trans e0 hw'; (try go_simp); (try rfl); done)
                  try simp only [Act.put, List.setIfInBounds_toArray, List.set_cons_zero, List.set_cons_succ]
                  refine wpAnyF_take (fin := 10) (i := 8) (v := ?_) hcl (some 56) rfl rfl (by kernel_rfl) (by kernel_rfl) (by kernel_rfl) (fun _ _ _ h => h) (by kernel_rfl) ?_ (fun hcl => ?_)
                  rotate_left 1
                  · (refine Or.inl ⟨by rfl, ?_⟩; intro w' hw'; have hq := below_via hcur hw'; have hq_e0 := Ext.trans e0 hw'; (try go_simp); (try rfl); done)
                  try simp only [Act.put, List.setIfInBounds_toArray, List.set_cons_zero, List.set_cons_succ]
                  refine wpAnyF_take (fin := 10) (i := 9) (v := ?_) hcl (some 57) rfl rfl (by kernel_rfl) (by kernel_rfl) (by kernel_rfl) (fun _ _ _ h => h) (by kernel_rfl) ?_ (fun hcl => ?_)
                  rotate_left 1
                  · (refine Or.inl ⟨by rfl, ?_⟩; intro w' hw'; have hq := below_via hcur hw'; have hq_e0 := Ext.trans e0 hw'; (try go_simp); (try rfl); done)
                  try simp only [Act.put, List.setIfInBounds_toArray, List.set_cons_zero, List.set_cons_succ]
                  refine wpAnyF_last (fin := 10) rfl (by kernel_rfl) (by kernel_rfl) (by rfl) (fun K hK => ?_)
                  go_simp
                  refine hK.out _ _ ?_
                  clear hK K hcl
                  rw [div_wrap, e2]
                  have hb4 := below_setCell (k := j + 1) b3.drew (Nat.le_refl V) (.int .u64 (((q1 + q0 / 65536 % 18446744073709551616) % 18446744073709551616 : Nat) : Int))
                  have hr4 : RowN _ V ca := hset.out
                  clear hset e2 c11 c12 f1 f0 hax
                  generalize (q1 + q0 / 65536 % 18446744073709551616) % 18446744073709551616 = nv at *
                  have ca0 := hr4.cell (j := j) (by omega)
                  have hset := hr4.set j (ca.getD j 0 % 65536)
                  rw [← hnx.out] at hset
                  have hb5 := below_setCell (k := j) hb4 (Nat.le_refl V) (.int .u64 ((ca.getD j 0 % 65536 : Nat) : Int))
                  obtain ⟨ca1, ca2⟩ := ca0
                  generalize ca.getD j 0 = c0 at *
                  change RowN (((wr.setCell ⟨V, j + 1, none⟩ (.int .u64 (nv : Int))).drew).setCell ⟨V, j, none⟩ (.int .u64 ((c0 % 65536 : Nat) : Int))) V (carN m (j + 1)) at hset
                  change Below V W1 (((wr.setCell ⟨V, j + 1, none⟩ (.int .u64 (nv : Int))).drew).setCell ⟨V, j, none⟩ (.int .u64 ((c0 % 65536 : Nat) : Int))) at hb5
                  change World.cell? ((wr.setCell ⟨V, j + 1, none⟩ (.int .u64 (nv : Int))).drew) ⟨V, j, none⟩ = some (.int .u64 (c0 : Int)) at ca1
                  change World.frozen? ((wr.setCell ⟨V, j + 1, none⟩ (.int .u64 (nv : Int))).drew) ⟨V, j, none⟩ = false at ca2
                  generalize (wr.setCell ⟨V, j + 1, none⟩ (.int .u64 (nv : Int))).drew = W5 at *
                  clear hb4 hr4
                  replace hset : Hid _ := hset
                  go_wp2_with fail
                  rw [show (c0 : Int) % 65536 = ((c0 % 65536 : Nat) : Int) by omega]
                  go_roundw
                  case rel => exact ⟨j + 1, by omega, by go_num, hset.out, hb5⟩
                  case measure => simp [intOf]; omega
                · obtain rfl : j = 11 := by omega
                  rw [hstep.out] at rQ
                  go_wp2_with fail
                  go_roundw
                  case rel => exact ⟨i + 1, by omega, by go_num, rQ, b3⟩
                  case measure => simp [intOf]; omega
        · obtain rfl : i = 12 := by omega
          rw [hst0.out] at rQ
          have hql := powN_length x (k + 1)
          have rP4 := rP2.setRow (powN x (k + 1))
          have rR4 := ((rR.at b2 (by omega)).other (D := w.heap.size + 1) (by omega) (ns (powN x (k + 1))).toArray)
          have bw4 := below_setRow (Below.trans bw (b2.mono (by omega))) (show w.heap.size ≤ w.heap.size + 1 by omega) (ns (powN x (k + 1))).toArray
          generalize hpk : powN x (k + 1) = pk at *
          replace hpk : Hid _ := hpk
          go_wp2_with (first
            | ((with_reducible refine at_load ?_); refine wpl_load12 rQ rfl hql _ rfl rfl ?_)
            | ((with_reducible refine at_store ?_); refine wpl_store12 rP2 rfl hpl hql _ _ rfl rfl rfl ?_)
            | fail)
          go_roundw
          case rel => exact ⟨k + 1, by omega, by go_num, rR4, by rw [hpk.out]; exact rP4, bw4⟩
          case measure => simp [intOf]; omega
    · obtain rfl : k = n := by omega
      have hpl := powN_length x k
      have rR4 := rR.setRow (powN x k)
      have bw4 := below_setRow bw (Nat.le_refl _) (ns (powN x k)).toArray
      have hret := loadVar12 rR4 hpl
      generalize hpk : powN x k = pk at *
      replace hpk : Hid _ := hpk
      go_wp2_with (first
        | ((with_reducible refine at_load ?_); refine wpl_load12 rP rfl hpl _ rfl rfl ?_)
        | ((with_reducible refine at_store ?_); refine wpl_store12 rR rfl rfl hpl _ _ rfl rfl rfl ?_)
        | fail)
      refine ret_cell (v := .agg (ns pk).toArray) Try.results29 ?_ hret ?_ ?_
      · rfl
      · rfl
      · exact ⟨by rw [hpk.out], bw4⟩
end Go.Proofs.Ytbdgnlbbijpfmaa

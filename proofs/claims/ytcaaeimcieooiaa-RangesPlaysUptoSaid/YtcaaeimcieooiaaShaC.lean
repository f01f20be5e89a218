/- Copy, Len, Sum of a state; the sum of bytes (walks). -/
import Derived.Test.YtcaaeimcieooiaaShaX
set_option linter.unusedVariables false
set_option linter.unusedSimpArgs false
set_option maxRecDepth 10000
namespace Go.Proofs.Ytcaaeimcieooiaa
open Go.RowKit

def zero8 : S8 := ⟨0, 0, 0, 0, 0, 0, 0, 0⟩
theorem zero55 (w : World) : (zeroValue 78).run Try.prog w = .ok (.agg (stCells zero8 zeros64 0 false).toArray) w :=
  (zero_of_info (P := Try.prog) (t := 78) (v := .agg (stCells zero8 zeros64 0 false).toArray) (n := 74) (by kernel_rfl)).1 w
theorem range74 {w : World} {g : Nat} {s : S8} {rest : List UInt8} {n : Nat} (h : StA w g s rest n) : w.rangeAt g 0 (stCells s rest n true) := fun j v hj => by
  rw [Nat.zero_add]; exact (h.cell hj).1
theorem info74 (s : S8) (rest : List UInt8) (n : Nat) (hr : rest.length = 64) : (Try.prog.info? 78).map (·.size) = some (stCells s rest n true).length := by
  rw [stCells_length _ _ _ _ hr]; kernel_rfl
theorem store74 (w : World) (s : S8) (rest : List UInt8) (n : Nat) (hr : rest.length = 64) :
    (storeCells ⟨w.heap.size, 0, none⟩ (stCells s rest n true) 0).run Try.prog (w.alloc (.cells (stCells zero8 zeros64 0 false).toArray 78)) = .ok () (w.alloc (.cells (stCells s rest n true).toArray 78)) :=
  run_storeCells_new w _ _ (stCells s rest n true).toArray (by simp only [List.size_toArray, stCells_length _ _ _ _ hr]; kernel_rfl) (by simp only [List.size_toArray, stCells_length _ _ _ _ hr]; rw [stCells_length]; rfl)
    (all_oneCell_toArray (fun v hv => by
      simp only [stCells, List.mem_append, List.mem_cons, List.not_mem_nil, or_false] at hv
      rcases hv with (hv | hv) | rfl | rfl
      · exact u32s_one _ v hv
      · exact bs_one _ v hv
      · rfl
      · rfl))

set_option maxHeartbeats 1000000 in
theorem copy_any (g : Nat) (xs : List UInt8) (w : World) (hs : St w g xs) :
    Calls Try.prog 40 #[.pointer (some ⟨g, 0, none⟩)] w fun e w' => ∃ g', e = .returned (.pointer (some ⟨g', 0, none⟩)) ∧ w.heap.size ≤ g' ∧ St w' g' xs ∧ Below w.heap.size w w' := by
  obtain ⟨hl, s, rest, hR, hA⟩ := st_iff.1 hs
  have h73 := (hA.cell (stCells_73 _ _ _ _ hR.1)).1
  have k1 := range74 hA
  have ki := info74 s rest xs.length hR.1
  have k2 := store74 w s rest xs.length hR.1
  have k3 := zero55
  have k4 := stCells_length s rest xs.length true hR.1
  go_enter Try.func40, Try.ntmps40
  go_wp2_with (refine wpList_load_mid rfl 78 _ rfl g 0 rfl _ _ k1 Try.underlying78 rfl ki ?_)
  go_ret
  exact ⟨_, rfl, Nat.le_refl _, st_iff.2 ⟨hl, s, rest, hR, heap_alloc_new _ _⟩, ext_alloc _ _⟩
theorem copy_nil (w : World) :
    Calls Try.prog 40 #[.pointer none] w fun e w' => e = .returned (.pointer none) ∧ w = w' := by
  go_enter Try.func40, Try.ntmps40
  go_wp2_with fail
  go_ret
  exact ⟨rfl, rfl⟩
theorem copy_zero (g : Nat) (w : World) (h : w.cell? ⟨g, 73, none⟩ = some (.bool false)) :
    Calls Try.prog 40 #[.pointer (some ⟨g, 0, none⟩)] w fun e w' => e = .returned (.pointer none) ∧ w = w' := by
  go_enter Try.func40, Try.ntmps40
  go_wp2_with fail
  go_ret
  exact ⟨rfl, rfl⟩
/-- A digest, as a value. -/
def dg (xs : List UInt8) : Value := .agg (bs xs).toArray
theorem index49 (w : World) (xs : List UInt32) (k : Nat) (hk : k < 8) (hl : xs.length = 8) : (Instr.index 74 (.agg (u32s xs).toArray) (.int .i64 (k : Int))).run Try.prog w = .ok (.int .u32 (c32 (xs.getD k 0))) w := by
  have h1 : (0 : Int) ≤ (k : Int) := by omega
  have h2 : (k : Int) < 8 := by omega
  have h3 : (u32s xs)[k]? = some (.int .u32 (c32 (xs.getD k 0))) := by
    simp [u32s, hl, hk]
  simp [Instr.index, go_sem, h1, h2, asIntOf, part]
  rw [if_pos hk, h3]
  simp
/-- A block of 32 bytes. -/
def Row32 (w : World) (B : Nat) (xs : List UInt8) : Prop := w.heap[B]? = some (.cells (bs xs).toArray 29 (0, 0))
theorem Row32.below {w w' : World} {B : Nat} {xs : List UInt8} (h : Row32 w B xs) (hb : Below w.heap.size w w') : Row32 w' B xs :=
  (hb.block B (Array.getElem?_eq_some_iff.1 h).1).trans h
theorem Row32.lt {w : World} {B : Nat} {xs : List UInt8} (h : Row32 w B xs) : B < w.heap.size := (Array.getElem?_eq_some_iff.1 h).1
theorem Row32.kept {w w' : World} {B : Nat} {xs : List UInt8} {row : Option Nat} (h : Row32 w B xs) (hg : w.grownBy w' row) (hne : some B ≠ row) : Row32 w' B xs := (hg.block B h.lt hne).trans h
theorem below_grown_at {n : Nat} {w0 w w' : World} {g : Nat} (h : Below n w0 w) (hg : w.grownBy w' (some g)) (hB : n ≤ w.heap.size) (hgn : n ≤ g) : Below n w0 w' :=
  Below.grown h hg hB (fun k hk => by cases hk; exact hgn)

theorem zeros_step (n z j : Nat) (hz : z = zerosOf n) (hj : j ≤ z) : (n + 1 + j) % 64 = 56 ↔ j = z := by
  unfold zerosOf at hz; omega
theorem slB_one (w : World) (x : UInt8) (t : TypeId) (fr : Nat × Nat) : SlB (w.alloc (.cells #[.int .u8 (c8 x)] t fr)) (.slice (some ⟨w.heap.size, 0, none⟩) 1 1) [x] := slB_lit w [x] t fr (by simp)

/-- How many bytes the state at x tells. -/
def tellsN (w : World) (x : Nat) : Nat := match w.cell? ⟨x, 72, none⟩ with
  | some v => (intOf v).toNat
  | none => 0
theorem St.tells {w : World} {x : Nat} {xs : List UInt8} (h : St w x xs) : tellsN w x = xs.length := by
  obtain ⟨hl, s, rest, hR, hA⟩ := st_iff.1 h
  unfold tellsN
  rw [(hA.cell (stCells_72 _ _ _ _ hR.1)).1]
  simp [intOf]
theorem St.c72 {w : World} {x : Nat} {xs : List UInt8} (h : St w x xs) : w.cell? ⟨x, 72, none⟩ = some (.int .u64 xs.length) := by
  obtain ⟨hl, s, rest, hR, hA⟩ := st_iff.1 h
  exact (hA.cell (stCells_72 _ _ _ _ hR.1)).1
theorem apart_new {xs : List UInt8} (w : World) (x : Nat) (h : St w x xs) (n c : Nat) : Apart (.slice (some ⟨w.heap.size, 0, none⟩) n c) x := by
  rintro ad n' c' e; injection e with e1; cases e1; have := h.lt; show w.heap.size ≠ x; omega

theorem be8_get (N m : Nat) (h : m < 8) : (be8 N).getD m 0 = UInt8.ofNat (N / 2 ^ (56 - 8 * m)) := by
  match m, h with
  | 0, _ => rfl
  | 1, _ => rfl
  | 2, _ => rfl
  | 3, _ => rfl
  | 4, _ => rfl
  | 5, _ => rfl
  | 6, _ => rfl
  | 7, _ => show UInt8.ofNat N = UInt8.ofNat (N / 1); rw [Nat.div_one]
theorem be8_val (n m : Nat) (h : m < 8) : (n : Int) * 8 / 2 ^ (56 - 8 * m) % (256 : Int) = c8 ((be8 (8 * n)).getD m 0) := by
  rw [be8_get _ _ h]; unfold c8; rw [UInt8.toNat_ofNat']
  have e : (2 : Int) ^ (56 - 8 * m) = ((2 ^ (56 - 8 * m) : Nat) : Int) := by simp
  rw [e, show (n : Int) * 8 = ((8 * n : Nat) : Int) by omega, ← Int.natCast_ediv]
  show _ = (((8 * n / 2 ^ (56 - 8 * m)) % 256 : Nat) : Int)
  omega
theorem be8_take (N m : Nat) (h : m < 8) : (be8 N).take (m + 1) = (be8 N).take m ++ [(be8 N).getD m 0] := by
  have hl : m < (be8 N).length := h
  rw [List.take_succ_eq_append_getElem hl]; simp [hl]

theorem Row32.cell {w : World} {B : Nat} {xs : List UInt8} (h : Row32 w B xs) {j : Nat} (hj : j < xs.length) : w.cell? ⟨B, j, none⟩ = some (.int .u8 (c8 (xs.getD j 0))) ∧ w.frozen? ⟨B, j, none⟩ = false := by
  refine ⟨?_, frozen_of_row _ _ _ _ _ h⟩
  rw [cell_of_row _ _ _ _ _ _ h, List.getElem?_toArray, bs_get _ hj]
theorem Row32.set {w : World} {B : Nat} {xs : List UInt8} (h : Row32 w B xs) (j : Nat) (x : UInt8) : Row32 (w.setCell ⟨B, j, none⟩ (.int .u8 (c8 x))) B (xs.set j x) := by
  unfold Row32 at h ⊢
  rw [heap_setCell_same w B j _ _ _ h]
  simp [bs, List.map_set]
theorem bytes_take (T : S8) {k : Nat} (h : k < 8) : T.bytes.take (4 * (k + 1)) = T.bytes.take (4 * k) ++ be32L (T.list.getD k 0) := by
  match k, h with
  | 0, _ => rfl
  | 1, _ => rfl
  | 2, _ => rfl
  | 3, _ => rfl
  | 4, _ => rfl
  | 5, _ => rfl
  | 6, _ => rfl
  | 7, _ => rfl

theorem q24 (q : UInt32) : c32 q / (16777216 : Int) % (256 : Int) = c8 (q >>> 24).toUInt8 := by
  have h1 : c32 q / (16777216 : Int) = c32 (q >>> 24) := c32_div_two_pow q 24 (by omega)
  rw [h1, ← wrap_32_8, IntKind.wrap_u8']
theorem q16 (q : UInt32) : c32 q / (65536 : Int) % (256 : Int) = c8 (q >>> 16).toUInt8 := by
  have h1 : c32 q / (65536 : Int) = c32 (q >>> 16) := c32_div_two_pow q 16 (by omega)
  rw [h1, ← wrap_32_8, IntKind.wrap_u8']
theorem q8 (q : UInt32) : c32 q / (256 : Int) % (256 : Int) = c8 (q >>> 8).toUInt8 := by
  have h1 : c32 q / (256 : Int) = c32 (q >>> 8) := c32_div_two_pow q 8 (by omega)
  rw [h1, ← wrap_32_8, IntKind.wrap_u8']
theorem q0 (q : UInt32) : c32 q % (256 : Int) = c8 q.toUInt8 := by
  rw [← wrap_32_8, IntKind.wrap_u8']
theorem set_four {p : Nat} (pre : List UInt8) (q : UInt32) (m : Nat) (hp : pre.length = p) :
    ((((pre ++ List.replicate (m + 4) 0).set p (q >>> 24).toUInt8).set (p + 1) (q >>> 16).toUInt8).set (p + 2) (q >>> 8).toUInt8).set (p + 3) q.toUInt8 = pre ++ be32L q ++ List.replicate m 0 := by
  subst hp
  rw [List.set_append_right _ _ (by omega), List.set_append_right _ _ (by omega), List.set_append_right _ _ (by omega), List.set_append_right _ _ (by omega)]
  have e1 : pre.length + 1 - pre.length = 1 := by omega
  have e2 : pre.length + 2 - pre.length = 2 := by omega
  have e3 : pre.length + 3 - pre.length = 3 := by omega
  rw [Nat.sub_self, e1, e2, e3, List.append_assoc]
  rfl

set_option maxHeartbeats 2000000 in
theorem sumSt_gen (v : Value) (xs : List UInt8) (w : World) (hlen : xs.length ≤ 1099511627776)
    (hcopy : ∀ w1, Below w.heap.size w w1 → Calls Try.prog 40 #[v] w1 fun e w' => (∃ x, e = .returned (.pointer (some ⟨x, 0, none⟩)) ∧ w1.heap.size ≤ x ∧ St w' x xs ∧ Below w1.heap.size w1 w') ∨ (e = .returned (.pointer none) ∧ w1 = w' ∧ xs = [])) :
    Calls Try.prog 32 #[v] w fun e w' => e = .returned (dg (sha xs)) ∧ Below w.heap.size w w' := by
  go_enter Try.func32, Try.ntmps32
  go_wp2_with fail
  refine (hcopy _ (ext_alloc _ _)).mono ?_
  rintro e w1 hcases
  have hr0 : ∀ w1 : World, Below (w.heap.size + 1) (w.alloc (.cells (bs (List.replicate 32 0)).toArray 29 (0, 0))) w1 → Row32 w1 w.heap.size (List.replicate 32 0) := fun w1 h => (h.block w.heap.size (by omega)).trans (heap_alloc_new _ _)
  have hb0 : ∀ w1 : World, Below (w.heap.size + 1) (w.alloc (.cells (bs (List.replicate 32 0)).toArray 29 (0, 0))) w1 → Below w.heap.size w w1 := fun w1 h => Below.trans (ext_alloc w _) (h.mono (by omega))
  have hsz : ∀ o, (w.alloc o).heap.size = w.heap.size + 1 := fun o => by show (w.heap.push _).size = _; simp
  rcases hcases with ⟨x, rfl, hx, hs1, b1⟩ | ⟨rfl, rfl, hxs⟩
  rotate_left
  focus
    go_wp2_with fail
    refine (new_any _).mono ?_
    rintro e w1 ⟨x, rfl, hx, hs1, b1⟩
    rw [← hxs] at hs1
    clear hxs
  all_goals
    rw [hsz] at hx b1
    have hr1 := hr0 _ b1
    have bw1 := hb0 _ b1
    clear hr0 hb0 b1 hsz hcopy
    obtain ⟨hl1, s, rest, hR, hA⟩ := st_iff.1 hs1
    have h72 := (hA.cell (stCells_72 _ _ _ _ hR.1)).1
    have hsx : w1.heap.size ≥ x + 1 := hs1.lt
    go_wp2_with fail
    refine (write_any x xs [0x80] _ _ (hs1.below (ext_alloc _ _)) (slB_one _ 0x80 _ _) ?ap (by simp; omega)).mono ?_
    case ap => intro _; rintro ad n c e; injection e with e1; cases e1; show w1.heap.size ≠ x; omega
    rintro e w2 ⟨rfl, hs2, b2⟩
    have bw2 := below_grown_at (bw1.trans ((Below.refl _ _).alloc bw1.size _)) b2 (by show _ ≤ (w1.heap.push _).size; simp; have := bw1.size; omega) (by omega)
    have hr2 := (hr1.below (ext_alloc _ _)).kept b2 (by intro e; cases e; omega)
    clear hs1 hA h72 hr1
    go_wp2_with fail
    go_loopw [] (fun wr => ∃ j : Nat, j ≤ zerosOf xs.length ∧ St wr x (xs ++ 0x80 :: List.replicate j 0) ∧ Row32 wr w.heap.size (List.replicate 32 0) ∧ Below w.heap.size w wr) (fun wr => xs.length + 65 - tellsN wr x)
    case atStart => exact ⟨0, by omega, hs2, hr2, bw2⟩
    case round =>
      clear bw2 hr2 b2 hs2
      obtain ⟨j, hj, hs2, hr2, bw2⟩ := hrel
      have h72 := hs2.c72
      have htl := hs2.tells
      have hlj : (xs ++ 0x80 :: List.replicate j 0).length = xs.length + 1 + j := by simp; omega
      rw [hlj] at h72 htl
      have hz := zeros_step xs.length _ j rfl hj
      have hz64 : zerosOf xs.length < 64 := by unfold zerosOf; omega
      by_cases hjz : j = zerosOf xs.length
      · have e1 : ((xs.length : Int) + 1 + (j : Int)) % 64 = 56 := by have := hz.2 hjz; omega
        go_wp2_with fail
        have hn : Hid (8 * xs.length < 18446744073709551616) := by unfold Hid; omega
        subst hjz
        have e2 : (((xs.length : Int) + 1 + (zerosOf xs.length : Int)) % 64 != 56) = false := by simp [e1]
        try rw [e2]
        go_loopw [5] (fun i wr => ∃ m : Nat, m ≤ 8 ∧ i = .int .i64 (56 - 8 * (m : Int)) ∧ St wr x (xs ++ 0x80 :: List.replicate (zerosOf xs.length) 0 ++ (be8 (8 * xs.length)).take m) ∧ Row32 wr w.heap.size (List.replicate 32 0) ∧ Below w.heap.size w wr) (fun i _ => (intOf i + 8).toNat)
        case atStart => exact ⟨0, by omega, rfl, by simpa using hs2, hr2, bw2⟩
        case round =>
          clear h72 htl hlj e1 hz hs2 hr2 bw2 hj
          obtain ⟨m, hm, rfl, hs2, hr2, bw2⟩ := hrel
          by_cases h8 : m < 8
          · have hll : (xs ++ 0x80 :: List.replicate (zerosOf xs.length) 0 ++ (be8 (8 * xs.length)).take m).length ≤ xs.length + 80 := by
              simp only [List.length_append, List.length_cons, List.length_replicate, List.length_take]; omega
            go_wp2_with fail
            rw [be8_val _ _ h8]
            refine (write_any x _ [(be8 (8 * xs.length)).getD m 0] _ _ (hs2.below (ext_alloc _ _)) (slB_one _ _ _ _) (fun _ => apart_new _ _ hs2 _ _) (by simp only [List.length_singleton]; omega)).mono ?_
            rintro e w3 ⟨rfl, hs3, b3⟩
            have bw3 := below_grown_at (bw2.trans ((Below.refl _ _).alloc bw2.size _)) b3 (by show _ ≤ (wr.heap.push _).size; simp; have := bw2.size; omega) (by omega)
            have hr3 := (hr2.below (ext_alloc _ _)).kept b3 (by intro e; cases e; omega)
            rw [List.append_assoc, ← be8_take _ _ h8] at hs3
            go_wp2_with fail
            go_roundw
            case rel => exact ⟨m + 1, by omega, by go_num, hs3, hr3, bw3⟩
            case measure => simp [intOf]; omega
          · obtain rfl : m = 8 := by omega
            have hpd : xs ++ 0x80 :: List.replicate (zerosOf xs.length) 0 ++ (be8 (8 * xs.length)).take 8 = padded xs := by
              rw [List.take_of_length_le (by rw [be8_length]; omega)]; rfl
            rw [hpd] at hs2
            obtain ⟨_, s', rest', hR', hA'⟩ := st_iff.1 hs2
            have hs8 : s' = shaState (padded xs) := hR'.2.2
            subst hs8
            have hrange : wr.rangeAt x 0 (u32s (shaState (padded xs)).list) := fun j v hj => by
              have hlt : j < 8 := (List.getElem?_eq_some_iff.1 hj).1
              rw [Nat.zero_add, stCells_head hA' hlt, ← hj]
              have : j < (shaState (padded xs)).list.length := hlt
              simp [u32s, this]
            generalize hT : shaState (padded xs) = T at hrange
            have hsha : Hid (sha xs = T.bytes) := by unfold Hid sha; rw [hT]
            clear hA' hR' hpd hs2 hT
            go_wp2_with (refine wpList_load_mid rfl 74 _ rfl x 0 rfl _ _ (World.rangeAt_alloc hrange _) Try.underlying74 rfl (by kernel_rfl) ?_)
            have hsz2 := bw2.size
            have hD : Row32 (wr.alloc (.cells (bs (List.replicate 32 0)).toArray 29 (0, 0))) wr.heap.size (T.bytes.take 0 ++ List.replicate (32 - 0) 0) := heap_alloc_new _ _
            have hr3 := hr2.below (ext_alloc wr (.cells (bs (List.replicate 32 0)).toArray 29 (0, 0)))
            have bw3 := bw2.trans ((Below.refl _ wr).alloc hsz2 (.cells (bs (List.replicate 32 0)).toArray 29 (0, 0)))
            have hDn : w.heap.size < wr.heap.size := hr2.lt
            generalize wr.heap.size = D at hD hDn
            go_loopw [46] (fun i wr => ∃ k : Nat, k ≤ 8 ∧ i = .int .i64 k ∧ Row32 wr D (T.bytes.take (4 * k) ++ List.replicate (32 - 4 * k) 0) ∧ Row32 wr w.heap.size (List.replicate 32 0) ∧ Below w.heap.size w wr) (fun i _ => 8 - (intOf i).toNat)
            case atStart => exact ⟨0, by omega, rfl, hD, hr3, bw3⟩
            case round =>
              clear hD hr3 bw3 hr2 bw2 hrange
              obtain ⟨k, hk, rfl, hD, hr2, bw2⟩ := hrel
              by_cases h8 : k < 8
              · have hix := index49 wr T.list k h8 rfl
                have hbl : (T.bytes.take (4 * k) ++ List.replicate (32 - 4 * k) 0).length = 32 := by
                  have : T.bytes.length = 32 := rfl
                  simp; omega
                have hcl := fun j (hj : j < 32) => hD.cell (j := j) (by rw [hbl]; exact hj)
                have f0 := hcl (4 * k) (by omega)
                have f1 := hcl (4 * k + 1) (by omega)
                have f2 := hcl (4 * k + 2) (by omega)
                have f3 := hcl (4 * k + 3) (by omega)
                have i0 : (4 * (k : Int)).toNat = 4 * k := by omega
                have i1 : (4 * (k : Int) + 1).toNat = 4 * k + 1 := by omega
                have i2 : (4 * (k : Int) + 2).toNat = 4 * k + 2 := by omega
                have i3 : (4 * (k : Int) + 3).toNat = 4 * k + 3 := by omega
                have j0 : (0 : Int) ≤ 4 * (k : Int) := by omega
                have j1 : (0 : Int) ≤ 4 * (k : Int) + 1 := by omega
                have j2 : (0 : Int) ≤ 4 * (k : Int) + 2 := by omega
                have j3 : (0 : Int) ≤ 4 * (k : Int) + 3 := by omega
                have k0 : 4 * (k : Int) < 32 := by omega
                have k1 : 4 * (k : Int) + 1 < 32 := by omega
                have k2 : 4 * (k : Int) + 2 < 32 := by omega
                have k3 : 4 * (k : Int) + 3 < 32 := by omega
                have w0 : IntKind.i64.wrap (4 * (k : Int)) = 4 * k := by rw [IntKind.wrap_i64]; omega
                have w1 : IntKind.i64.wrap (4 * (k : Int) + 1) = 4 * k + 1 := by rw [IntKind.wrap_i64]; omega
                have w2 : IntKind.i64.wrap (4 * (k : Int) + 2) = 4 * k + 2 := by rw [IntKind.wrap_i64]; omega
                have w3 : IntKind.i64.wrap (4 * (k : Int) + 3) = 4 * k + 3 := by rw [IntKind.wrap_i64]; omega
                have hnx : Hid (∀ q, q = T.list.getD k 0 → T.bytes.take (4 * (k + 1)) = T.bytes.take (4 * k) ++ be32L q) := by
                  unfold Hid; rintro q rfl; exact bytes_take T h8
                have hq := hnx.out _ rfl
                generalize T.list.getD k 0 = q at hix hq
                replace hq : Hid (T.bytes.take (4 * (k + 1)) = T.bytes.take (4 * k) ++ be32L q) := hq
                clear hcl hnx hbl
                go_wp2_with fail
                go_roundw
                case rel =>
                  rw [q24, q16, q8, q0]
                  refine ⟨k + 1, by omega, by go_num, ?_, ?_, below_setCell (below_setCell (below_setCell (below_setCell bw2 (Nat.le_of_lt hDn) _) (Nat.le_of_lt hDn) _) (Nat.le_of_lt hDn) _) (Nat.le_of_lt hDn) _⟩
                  · have := (((hD.set (4 * k) (q >>> 24).toUInt8).set (4 * k + 1) (q >>> 16).toUInt8).set (4 * k + 2) (q >>> 8).toUInt8).set (4 * k + 3) q.toUInt8
                    rw [hq.out]
                    obtain ⟨m, hm⟩ : ∃ m, 32 - 4 * k = m + 4 := ⟨28 - 4 * k, by omega⟩
                    rw [hm, set_four _ _ _ (by have : T.bytes.length = 32 := rfl; simp; omega)] at this
                    rw [show 32 - 4 * (k + 1) = m by omega]
                    exact this
                  · have hne : w.heap.size ≠ D := Nat.ne_of_lt hDn
                    exact (heap_setCell_other _ _ _ _ hne).trans ((heap_setCell_other _ _ _ _ hne).trans ((heap_setCell_other _ _ _ _ hne).trans ((heap_setCell_other _ _ _ _ hne).trans hr2)))
                case measure => simp [intOf]; omega
              · obtain rfl : k = 8 := by omega
                have hfull : T.bytes.take (4 * 8) ++ List.replicate (32 - 4 * 8) 0 = T.bytes := rfl
                rw [hfull] at hD
                have hrD : wr.rangeAt D 0 (bs T.bytes) := fun j v hj => by
                  have hlt : j < T.bytes.length := by have := (List.getElem?_eq_some_iff.1 hj).1; rwa [bs_length] at this
                  rw [Nat.zero_add, (hD.cell hlt).1, ← hj, bs_get _ hlt]
                have hone : (bs T.bytes).toArray.all (·.oneCell') = true := all_oneCell_toArray (bs_one _)
                have hret := run_loadVar_row (P := Try.prog) (wr.setRow w.heap.size (bs T.bytes).toArray) w.heap.size 29 29 (bs T.bytes).toArray (0, 0) _ (setRow_heap wr w.heap.size _ _ _ _ hr2) Try.underlying29 rfl (by kernel_rfl)
                have bw3 := below_setRow bw2 (Nat.le_refl _) (bs T.bytes).toArray
                clear hD hfull
                go_wp2_with (first | (refine wpList_load_mid rfl 29 _ rfl D 0 rfl _ _ hrD Try.underlying29 rfl (by kernel_rfl) ?_) | (refine wpList_store_row rfl 29 _ _ rfl w.heap.size (bs T.bytes).toArray rfl rfl 29 _ hr2 (by kernel_rfl) rfl hone ?_))
                refine ret_cell (v := dg T.bytes) Try.results32 rfl hret rfl ⟨?_, bw3⟩
                rw [hsha.out]
      · have e1 : ¬ ((xs.length : Int) + 1 + (j : Int)) % 64 = 56 := by have := fun h => hjz (hz.1 h); omega
        go_wp2_with fail
        refine (write_any x _ [0] _ _ (hs2.below (ext_alloc _ _)) (slB_one _ 0 _ _) (fun _ => apart_new _ _ hs2 _ _) (by rw [hlj]; simp; omega)).mono ?_
        rintro e w3 ⟨rfl, hs3, b3⟩
        have bw3 := below_grown_at (bw2.trans ((Below.refl _ _).alloc bw2.size _)) b3 (by show _ ≤ (wr.heap.push _).size; simp; have := bw2.size; omega) (by omega)
        have hr3 := (hr2.below (ext_alloc _ _)).kept b3 (by intro e; cases e; omega)
        have hs4 : St w3 x (xs ++ 0x80 :: List.replicate (j + 1) 0) := by
          rw [List.append_assoc, List.cons_append, ← List.replicate_succ'] at hs3; exact hs3
        go_wp2_with fail
        go_roundw
        case rel => exact ⟨j + 1, by omega, hs4, hr3, bw3⟩
        case measure =>
          rw [hs4.tells, htl]
          simp; omega

theorem sumSt_any (g : Nat) (xs : List UInt8) (w : World) (hs : St w g xs) (hlen : xs.length ≤ 1099511627776) :
    Calls Try.prog 32 #[.pointer (some ⟨g, 0, none⟩)] w fun e w' => e = .returned (dg (sha xs)) ∧ Below w.heap.size w w' :=
  sumSt_gen _ xs w hlen fun w1 b => (copy_any g xs w1 (hs.below b)).mono fun _ _ h => .inl h
theorem sumSt_nil (w : World) :
    Calls Try.prog 32 #[.pointer none] w fun e w' => e = .returned (dg (sha [])) ∧ Below w.heap.size w w' :=
  sumSt_gen _ [] w (by simp) fun w1 b => (copy_nil w1).mono fun _ _ h => .inr ⟨h.1, h.2, rfl⟩
theorem sumSt_zero (g : Nat) (w : World) (h : w.cell? ⟨g, 73, none⟩ = some (.bool false)) :
    Calls Try.prog 32 #[.pointer (some ⟨g, 0, none⟩)] w fun e w' => e = .returned (dg (sha [])) ∧ Below w.heap.size w w' :=
  sumSt_gen _ [] w (by simp) fun w1 b => (copy_zero g w1 (by
    have := World.block_lt_of_cell? w _ h
    exact (b.cell this).trans h)).mono fun _ _ h => .inr ⟨h.1, h.2, rfl⟩

set_option maxHeartbeats 1000000 in
theorem shaSum_any (v : Value) (xs : List UInt8) (w : World) (hv : SlB w v xs) (hlen : xs.length ≤ 1099511627776) :
    Calls Try.prog 28 #[v] w fun e w' => e = .returned (dg (sha xs)) ∧ Below w.heap.size w w' := by
  have hr0 : ∀ w1 : World, Below (w.heap.size + 1) (w.alloc (.cells (bs (List.replicate 32 0)).toArray 29 (0, 0))) w1 → Row32 w1 w.heap.size (List.replicate 32 0) := fun w1 h => (h.block w.heap.size (by omega)).trans (heap_alloc_new _ _)
  have hb0 : ∀ w1 : World, Below (w.heap.size + 1) (w.alloc (.cells (bs (List.replicate 32 0)).toArray 29 (0, 0))) w1 → Below w.heap.size w w1 := fun w1 h => Below.trans (ext_alloc w _) (h.mono (by omega))
  have hsz : ∀ o, (w.alloc o).heap.size = w.heap.size + 1 := fun o => by show (w.heap.push _).size = _; simp
  have hap : ∀ x, w.heap.size ≤ x → xs ≠ [] → Apart v x := fun x hx hne => apart_lt hv hne hx
  go_enter Try.func28, Try.ntmps28
  go_wp2_with fail
  refine (new_any _).mono ?_
  rintro e w1 ⟨x, rfl, hx, hs1, b1⟩
  rw [hsz] at hx b1
  have hr1 := hr0 _ b1
  have bw1 := hb0 _ b1
  clear hr0 hb0 b1 hsz
  go_wp2_with fail
  refine (write_any x [] xs _ _ hs1 (hv.below bw1) (hap x (by omega)) (by simp; omega)).mono ?_
  rintro e w2 ⟨rfl, hs2, b2⟩
  have hsx := hs1.lt
  have bw2 := below_grown_at bw1 b2 bw1.size (by omega)
  have hr2 := hr1.kept b2 (by intro e; cases e; omega)
  go_wp2_with fail
  refine (sumSt_any x xs _ hs2 hlen).mono ?_
  rintro e w3 ⟨rfl, b3⟩
  have bw3 := bw2.trans (b3.mono bw2.size)
  have hr3 := hr2.below b3
  have hone : (bs (sha xs)).toArray.all (·.oneCell') = true := all_oneCell_toArray (bs_one _)
  have hret := run_loadVar_row (P := Try.prog) (w3.setRow w.heap.size (bs (sha xs)).toArray) w.heap.size 29 29 (bs (sha xs)).toArray (0, 0) _ (setRow_heap w3 w.heap.size _ _ _ _ hr3) Try.underlying29 rfl (by rw [List.size_toArray, bs_length, sha_length]; kernel_rfl)
  have hsize : (bs (List.replicate 32 0)).toArray.size = (bs (sha xs)).toArray.size := by simp [bs_length, sha_length]
  have hinfo : (Try.prog.info? 29).map (·.size) = some (bs (sha xs)).toArray.size := by rw [List.size_toArray, bs_length, sha_length]; kernel_rfl
  go_wp2_with (refine wpList_store_row rfl 29 _ _ rfl w.heap.size (bs (sha xs)).toArray rfl rfl 29 _ hr3 hinfo hsize hone ?_)
  exact ret_cell (v := dg (sha xs)) Try.results28 rfl hret rfl ⟨rfl, below_setRow bw3 (Nat.le_refl _) _⟩
end Go.Proofs.Ytcaaeimcieooiaa

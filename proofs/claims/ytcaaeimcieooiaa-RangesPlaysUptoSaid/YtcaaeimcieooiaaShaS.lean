/- The reference's sum (walk). -/
import Derived.Test.YtcaaeimcieooiaaShaR
set_option linter.unusedVariables false
set_option linter.unusedSimpArgs false
set_option maxRecDepth 10000
namespace Go.Proofs.Ytcaaeimcieooiaa
open Go.RowKit
attribute [local go_sem high] rs_l rs_lh rs_lhm rs_h rs_hm rs_all

def slLen (v : Value) : Nat := match v with | .slice _ n _ => n | _ => 0
theorem OwB.len {B : Nat} {w : World} {v : Value} {xs : List UInt8} (h : OwB B w v xs) : slLen v = xs.length := by
  obtain ⟨A, c, rfl, _⟩ := h.sl; rfl

theorem make_bytes (w : World) (n : Nat) (hn : n ≤ 16777216) (m : Int) (hm : m = n) : (Instr.makeSlice 56 (.int .i64 m) (.int .i64 m)).run Try.prog w = .ok (.slice (some ⟨w.heap.size, 0, none⟩) n n) (w.alloc (.cells (bs (List.replicate n 0)).toArray 5)) := by
  subst hm
  obtain ⟨i, hi, hz0, hz1, hz2⟩ := info_parts info8
  have := run_makeSlice (P := Try.prog) w 56 5 i _ Try.underlying56 hi hz0 .i64 .i64 n n (by omega) (by omega) (by rw [hz1]; omega) (by rw [hz2]; omega) (by omega)
  rw [this, hz1]
  have e : madeCells (Value.int .u8 0).cells (n * 1) = (bs (List.replicate n 0)).toArray := by
    apply Array.ext'
    have := toList_madeCells_one (Value.int .u8 0) n
    rw [Nat.mul_one]
    exact this.trans (by simp [bs, c8])
  simp only [Int.toNat_natCast, e]
/-- A row of bytes. -/
def RowB (w : World) (B : Nat) (xs : List UInt8) : Prop := w.heap[B]? = some (.cells (bs xs).toArray 5 (0, 0))
theorem RowB.cell {w : World} {B : Nat} {xs : List UInt8} (h : RowB w B xs) {j : Nat} (hj : j < xs.length) : w.cell? ⟨B, j, none⟩ = some (.int .u8 (c8 (xs.getD j 0))) ∧ w.frozen? ⟨B, j, none⟩ = false := by
  refine ⟨?_, frozen_of_row _ _ _ _ _ h⟩
  rw [cell_of_row _ _ _ _ _ _ h, List.getElem?_toArray, bs_get _ hj]
theorem RowB.set {w : World} {B : Nat} {xs : List UInt8} (h : RowB w B xs) (j : Nat) (x : UInt8) : RowB (w.setCell ⟨B, j, none⟩ (.int .u8 (c8 x))) B (xs.set j x) := by
  unfold RowB at h ⊢
  rw [heap_setCell_same w B j _ _ _ h]
  simp [bs, List.map_set]

theorem RowB.sl {w : World} {B : Nat} {xs : List UInt8} (h : RowB w B xs) (hl : xs.length ≤ 1099511627776) : SlB w (.slice (some ⟨B, 0, none⟩) xs.length xs.length) xs := by
  refine ⟨_, _, rfl, Nat.le_refl _, by omega, by simp, Rc.of_some fun j u hj => ?_⟩
  rw [Addr.add_lit, Nat.zero_add, cell_of_row _ _ _ _ _ _ h]
  simpa using hj
theorem blocks_succ : ∀ (k : Nat) (s : S8) (xs : List UInt8), blocks (k + 1) s xs = blockS (blocks k s xs) ((xs.drop (64 * k)).take 64)
  | 0, s, xs => rfl
  | k + 1, s, xs => by
    show blocks (k + 1) (blockS s (xs.take 64)) (xs.drop 64) = blockS (blocks k (blockS s (xs.take 64)) (xs.drop 64)) _
    rw [blocks_succ k, List.drop_drop, show 64 + 64 * k = 64 * (k + 1) by omega]
theorem load8 {w : World} {S : Nat} {t : S8} (h : Row8 w S t) : (loadVar 74 ⟨S, 0, none⟩).run Try.prog w = .ok (.agg (u32s t.list).toArray) w :=
  run_loadVar_row (P := Try.prog) w S 74 74 (u32s t.list).toArray (0, 0) _ h Try.underlying74 rfl (info49 _)
theorem load32 {w : World} {D : Nat} {xs : List UInt8} (h : Row32 w D xs) (hl : xs.length = 32) : (loadVar 29 ⟨D, 0, none⟩).run Try.prog w = .ok (dg xs) w :=
  run_loadVar_row (P := Try.prog) w D 29 29 (bs xs).toArray (0, 0) _ h Try.underlying29 rfl (by rw [List.size_toArray, bs_length, hl]; kernel_rfl)
theorem info32 {xs : List UInt8} (hl : xs.length = 32) : (Try.prog.info? 29).map (·.size) = some (bs xs).toArray.size := by rw [List.size_toArray, bs_length, hl]; kernel_rfl
theorem bytes_get (T : S8) (i : Nat) (h : i < 32) : T.bytes.getD i 0 = (T.list.getD (i / 4) 0 >>> UInt32.ofNat (24 - 8 * (i % 4))).toUInt8 := by
  match i, h with
  | 0, _ => rfl
  | 1, _ => rfl
  | 2, _ => rfl
  | 3, _ => show UInt32.toUInt8 _ = UInt32.toUInt8 (_ >>> (0 : UInt32)); rw [UInt32.shiftRight_zero]; rfl
  | 4, _ => rfl
  | 5, _ => rfl
  | 6, _ => rfl
  | 7, _ => show UInt32.toUInt8 _ = UInt32.toUInt8 (_ >>> (0 : UInt32)); rw [UInt32.shiftRight_zero]; rfl
  | 8, _ => rfl
  | 9, _ => rfl
  | 10, _ => rfl
  | 11, _ => show UInt32.toUInt8 _ = UInt32.toUInt8 (_ >>> (0 : UInt32)); rw [UInt32.shiftRight_zero]; rfl
  | 12, _ => rfl
  | 13, _ => rfl
  | 14, _ => rfl
  | 15, _ => show UInt32.toUInt8 _ = UInt32.toUInt8 (_ >>> (0 : UInt32)); rw [UInt32.shiftRight_zero]; rfl
  | 16, _ => rfl
  | 17, _ => rfl
  | 18, _ => rfl
  | 19, _ => show UInt32.toUInt8 _ = UInt32.toUInt8 (_ >>> (0 : UInt32)); rw [UInt32.shiftRight_zero]; rfl
  | 20, _ => rfl
  | 21, _ => rfl
  | 22, _ => rfl
  | 23, _ => show UInt32.toUInt8 _ = UInt32.toUInt8 (_ >>> (0 : UInt32)); rw [UInt32.shiftRight_zero]; rfl
  | 24, _ => rfl
  | 25, _ => rfl
  | 26, _ => rfl
  | 27, _ => show UInt32.toUInt8 _ = UInt32.toUInt8 (_ >>> (0 : UInt32)); rw [UInt32.shiftRight_zero]; rfl
  | 28, _ => rfl
  | 29, _ => rfl
  | 30, _ => rfl
  | k + 32, h => omega
  | 31, _ => show UInt32.toUInt8 _ = UInt32.toUInt8 (_ >>> (0 : UInt32)); rw [UInt32.shiftRight_zero]; rfl

theorem qn (q : UInt32) (n : Nat) (hn : n < 32) : c32 q / 2 ^ n % (256 : Int) = c8 (q >>> UInt32.ofNat n).toUInt8 := by
  rw [c32_div_two_pow q n hn, ← wrap_32_8, IntKind.wrap_u8']
theorem set_fill (xs : List UInt8) (k : Nat) (h : k < xs.length) : (xs.take k ++ List.replicate (xs.length - k) 0).set k (xs.getD k 0) = xs.take (k + 1) ++ List.replicate (xs.length - (k + 1)) 0 := by
  obtain ⟨m, hm⟩ : ∃ m, xs.length - k = m + 1 := ⟨xs.length - k - 1, by omega⟩
  have hl : (xs.take k).length = k := by rw [List.length_take]; omega
  rw [hm, List.set_append_right _ _ (by omega), hl, Nat.sub_self, show xs.length - (k + 1) = m by omega, List.take_succ_eq_append_getElem h, List.append_assoc]
  simp [h, List.replicate_succ]
theorem tail_val (n m : Nat) (hm : m < 8) : ((8 * n / 256 ^ m : Nat) : Int) % (256 : Int) = c8 ((be8 (8 * n)).getD (7 - m) 0) := by
  rw [be8_get _ _ (by omega), show 56 - 8 * (7 - m) = 8 * m by omega, show (2 : Nat) ^ (8 * m) = 256 ^ m by rw [Nat.pow_mul]]
  unfold c8; rw [UInt8.toNat_ofNat']
  show _ = (((8 * n / 256 ^ m) % 256 : Nat) : Int)
  omega
theorem tail_set (N m : Nat) (hm : m < 8) : (List.replicate (8 - m) 0 ++ (be8 N).drop (8 - m)).set (7 - m) ((be8 N).getD (7 - m) 0) = List.replicate (8 - (m + 1)) 0 ++ (be8 N).drop (8 - (m + 1)) := by
  match m, hm with
  | 0, _ => rfl
  | 1, _ => rfl
  | 2, _ => rfl
  | 3, _ => rfl
  | 4, _ => rfl
  | 5, _ => rfl
  | 6, _ => rfl
  | 7, _ => rfl

set_option maxHeartbeats 2000000 in
theorem rsum_any (v : Value) (xs : List UInt8) (w : World) (hv : SlB w v xs) (hlen : xs.length ≤ 1099511627776) :
    Calls Try.prog 33 #[v] w fun e w' => e = .returned (dg (sha xs)) ∧ Below w.heap.size w w' := by
  have hv0 := hv
  obtain ⟨A0, c0, rfl, hc0, hcm0, hA0, hrr0⟩ := hv0
  go_enter Try.func33, Try.ntmps33
  go_wp2_with (at_builtin; go_loud (refine wpl_cpB rfl _ _ rfl rfl rfl (hv.below (ext_alloc _ _)) (by omega) ?_))
  intro v1 w1 h1 b1
  have hsz1 : w.heap.size + 1 ≤ w1.heap.size := by have := b1.size; simpa [size_alloc] using this
  replace h1 := OwB.mono (B' := w.heap.size + 1) h1 (by simp [size_alloc])
  go_wp2_with (at_builtin; go_loud (refine wpl_apB (B := w.heap.size + 1) rfl _ _ rfl rfl (h1.below (ext_alloc _ _)) rfl (slB_one _ 0x80 _ _) (by simp; omega) (by rw [size_alloc]; omega) ?_))
  intro v2 w2 h2 b2
  have b12 : Below (w.heap.size + 1) _ w2 := b1.trans ((Below.refl _ w1).alloc hsz1 (.cells #[.int .u8 (c8 0x80)] 5 (0, 0)) |>.trans b2)
  have hr2 : Row32 w2 w.heap.size (List.replicate 32 0) := (b12.block w.heap.size (by omega)).trans (heap_alloc_new _ _)
  have bw2 : Below w.heap.size w w2 := Below.trans (ext_alloc w _) (b12.mono (by omega))
  have hs2 : w.heap.size + 1 ≤ w2.heap.size := by have := b2.size; simp [size_alloc] at this; omega
  have hv2 := hv.below bw2
  clear hsz1 h1 b1 b2 b12
  go_wp2_with fail
  go_loopw [3] (fun sl wr => ∃ j : Nat, j ≤ zerosOf xs.length ∧ OwB (w.heap.size + 1) wr sl (xs ++ 0x80 :: List.replicate j 0) ∧ w.heap.size + 1 ≤ wr.heap.size ∧ Below (w.heap.size + 1) w2 wr) (fun sl _ => xs.length + 65 - slLen sl)
  case atStart => exact ⟨0, by omega, h2, hs2, Below.refl _ _⟩
  case round =>
    clear h2
    obtain ⟨j, hj, h2, hs3, b3⟩ := hrel
    generalize wr = W0 at *
    have hln := h2.len
    have h2s := h2.sl
    obtain ⟨A, c, rfl, hc, hcm, hA, hrr⟩ := h2s
    have hlj : (xs ++ 0x80 :: List.replicate j 0).length = xs.length + 1 + j := by simp; omega
    have hz := zeros_step xs.length _ j rfl hj
    have hz64 : zerosOf xs.length < 64 := by unfold zerosOf; omega
    by_cases hjz : j = zerosOf xs.length
    · have e1 : ((xs.length : Int) + ((zerosOf xs.length : Int) + 1)) % 64 = 56 := by have := hz.2 hjz; omega
      have e2 : (((xs.length : Int) + ((zerosOf xs.length : Int) + 1)) % 64 != 56) = false := by simp [e1]
      subst hjz
      have km := make_bytes W0 8 (by decide) 8 rfl
      go_wp2_with fail
      have hT0 : RowB (W0.alloc (.cells (bs (List.replicate 8 0)).toArray 5)) W0.heap.size (List.replicate (8 - 0) 0 ++ (be8 (8 * xs.length)).drop (8 - 0)) := heap_alloc_new _ _
      have bT0 : Ext W0 (W0.alloc (.cells (bs (List.replicate 8 0)).toArray 5)) := ext_alloc _ _
      go_loopw [4, 6] (fun n i w' => ∃ m : Nat, m ≤ 8 ∧ i = .int .i64 (7 - (m : Int)) ∧ n = .int .u64 ((8 * xs.length / 256 ^ m : Nat) : Int) ∧ RowB w' W0.heap.size (List.replicate (8 - m) 0 ++ (be8 (8 * xs.length)).drop (8 - m)) ∧ Ext W0 w') (fun _ i _ => (intOf i + 1).toNat)
      case atStart => exact ⟨0, by omega, rfl, by simp, hT0, bT0⟩
      case round =>
        clear hT0 bT0 km
        obtain ⟨m, hm, rfl, rfl, hT, bT⟩ := hrel
        by_cases h8 : m < 8
        · have htv := tail_val xs.length m h8
          have hdv : 8 * xs.length / 256 ^ m / 256 = 8 * xs.length / 256 ^ (m + 1) := by rw [Nat.div_div_eq_div_mul, ← Nat.pow_succ]
          have hle : 8 * xs.length / 256 ^ m ≤ 8 * xs.length := Nat.div_le_self _ _
          have hlT : (List.replicate (8 - m) (0 : UInt8) ++ (be8 (8 * xs.length)).drop (8 - m)).length = 8 := by simp [be8_length]
          have hTc := hT.cell (j := 7 - m) (by omega)
          have hTs := hT.set (7 - m) ((be8 (8 * xs.length)).getD (7 - m) 0)
          rw [tail_set _ _ h8] at hTs
          have hbe : Ext W0 _ := below_setCell (k := 7 - m) bT (Nat.le_refl _) (.int .u8 (c8 ((be8 (8 * xs.length)).getD (7 - m) 0)))
          generalize (be8 (8 * xs.length)).getD (7 - m) 0 = y at htv hTs hbe
          rw [← htv] at hTs hbe
          replace hdv : Hid _ := hdv
          generalize 8 * xs.length / 256 ^ m = q at hdv hle hTs hbe ⊢
          clear htv hT hlT
          have hm7 : (m : Int) ≤ 7 := by omega
          go_wp2_with fail
          go_roundw
          case rel =>
            refine ⟨m + 1, by omega, by go_num, ?_, hTs, hbe⟩
            rw [← hdv.out, Int.natCast_ediv]; rfl
          case measure => simp [intOf]; omega
        · obtain rfl : m = 8 := by omega
          have hT8 : List.replicate (8 - 8) (0 : UInt8) ++ (be8 (8 * xs.length)).drop (8 - 8) = be8 (8 * xs.length) := rfl
          rw [hT8] at hT
          rw [hlj] at h2
          have hsT := hT.sl (by simp [be8_length])
          rw [be8_length] at hsT
          have hsz4 := bT.size
          have h4 := h2.below bT
          have b45 : Below (w.heap.size + 1) w2 wr := b3.trans (bT.mono hs3)
          go_wp2_with (at_builtin; go_loud (refine wpl_apB (B := w.heap.size + 1) rfl _ _ rfl rfl h4 rfl hsT (by rw [hlj, be8_length]; omega) (by omega) ?_))
          intro v5 w5 h5 b5
          have hpd : xs ++ 0x80 :: List.replicate (zerosOf xs.length) 0 ++ be8 (8 * xs.length) = padded xs := rfl
          rw [List.append_assoc, List.cons_append] at hpd
          rw [hpd] at h5
          have b25 := b45.trans b5
          clear hpd hT hsT h4 bT hT8 b45 b5 h2 hrr b3
          go_wp2_with fail
          refine (rfirst_any _).mono ?_
          rintro e w6 ⟨rfl, b6⟩
          have hone : (u32s first8.list).toArray.all (·.oneCell') = true := all_oneCell_toArray (u32s_one _)
          have hinfo := info49 first8
          go_wp2_with (refine wpList_store_row rfl 74 _ _ rfl w6.heap.size (u32s first8.list).toArray rfl rfl 74 _ (heap_alloc_new _ _) hinfo (by rfl) hone ?_)
          have hS0 : Row8 ((w6.alloc (.cells (u32s zero8.list).toArray 74 (0, 0))).setRow w6.heap.size (u32s first8.list).toArray) w6.heap.size (blocks 0 first8 (padded xs)) := setRow_heap _ _ _ _ _ _ (heap_alloc_new _ _)
          have bS0 : Below w6.heap.size w6 ((w6.alloc (.cells (u32s zero8.list).toArray 74 (0, 0))).setRow w6.heap.size (u32s first8.list).toArray) := below_setRow (ext_alloc _ _) (Nat.le_refl _) _
          have hv6 := h5.sl.below b6
          have b26 := b25.trans (b6.mono (by have := b25.size; omega))
          have hr6 : Row32 w6 w.heap.size (List.replicate 32 0) := (b26.block w.heap.size (by omega)).trans hr2
          have bw6 : Below w.heap.size w w6 := bw2.trans (b26.mono (by omega))
          have hp64 := padded_length xs
          have hpm : (padded xs).length ≤ 1099511627776 + 128 := by rw [padded_length']; omega
          have hsha : Hid (sha xs = (blocks ((padded xs).length / 64) first8 (padded xs)).bytes) := rfl
          generalize padded xs = p at hS0 hv6 hp64 hsha hpm
          obtain ⟨A5, c5, rfl, hc5, hcm5, hA5, hrr5⟩ := id hv6
          go_loopw [8] (fun i wr => ∃ k : Nat, 64 * k ≤ p.length ∧ i = .int .i64 (64 * (k : Int)) ∧ Row8 wr w6.heap.size (blocks k first8 p) ∧ Below w6.heap.size w6 wr) (fun i _ => p.length - (intOf i).toNat)
          case atStart => exact ⟨0, by omega, rfl, hS0, bS0⟩
          case round =>
            clear hS0 bS0 h5 b25 b6 b26 hr2 bw2 hs2 hv2 hln hlj e1 e2
            obtain ⟨k, hk, rfl, hS, bw⟩ := hrel
            by_cases h64 : 64 * k < p.length
            · have hk2 : 64 * k + 64 ≤ p.length := by omega
              have hv7 := fun w' (hw' : Ext wr w') => (hv6.below bw).below hw'
              have hsl := fun w' (hw' : Ext wr w') => slB_slice (hv7 w' hw') (64 * k) (64 * k + 64) (by omega) hk2
              have e3 : 64 * k + 64 - 64 * k = 64 := by omega
              rw [e3] at hsl
              have hbl : ((p.drop (64 * k)).take 64).length = 64 := by simp; omega
              have hnx := blocks_succ k first8 p
              generalize (p.drop (64 * k)).take 64 = b at hsl hbl hnx
              have i0 : (64 * (k : Int)).toNat = 64 * k := by omega
              have i1 : (64 * (k : Int) + 64).toNat = 64 * k + 64 := by omega
              have j0 : (0 : Int) ≤ 64 * (k : Int) := by omega
              have j1 : 64 * (k : Int) ≤ 64 * (k : Int) + 64 := by omega
              have j2 : 64 * (k : Int) + 64 ≤ c5 := by omega
              have j3 : 64 * (k : Int) < p.length := by omega
              have w0 : IntKind.i64.wrap (64 * (k : Int) + 64) = 64 * k + 64 := by rw [IntKind.wrap_i64]; omega
              have hcur : Below wr.heap.size wr wr := Below.refl _ _
              have e0 := Ext.refl wr
              generalize blocks k first8 p = s at hS hnx
              have hv := fun j (hj : j < 8) w' (hw' : Ext wr w') => ((hS.below hw').cell hj).1
              have v0 : ∀ w', Ext wr w' → w'.cell? ⟨w6.heap.size, 0, none⟩ = some (.int .u32 (c32 s.a)) := hv 0 (by omega)
              have v1 : ∀ w', Ext wr w' → w'.cell? ⟨w6.heap.size, 1, none⟩ = some (.int .u32 (c32 s.b)) := hv 1 (by omega)
              have v2 : ∀ w', Ext wr w' → w'.cell? ⟨w6.heap.size, 2, none⟩ = some (.int .u32 (c32 s.c)) := hv 2 (by omega)
              have v3 : ∀ w', Ext wr w' → w'.cell? ⟨w6.heap.size, 3, none⟩ = some (.int .u32 (c32 s.d)) := hv 3 (by omega)
              have v4 : ∀ w', Ext wr w' → w'.cell? ⟨w6.heap.size, 4, none⟩ = some (.int .u32 (c32 s.e)) := hv 4 (by omega)
              have v5 : ∀ w', Ext wr w' → w'.cell? ⟨w6.heap.size, 5, none⟩ = some (.int .u32 (c32 s.f)) := hv 5 (by omega)
              have v6 : ∀ w', Ext wr w' → w'.cell? ⟨w6.heap.size, 6, none⟩ = some (.int .u32 (c32 s.g)) := hv 6 (by omega)
              have v7 : ∀ w', Ext wr w' → w'.cell? ⟨w6.heap.size, 7, none⟩ = some (.int .u32 (c32 s.h)) := hv 7 (by omega)
              clear hv
              have hinfo8 : (Try.prog.info? 74).map (·.size) = some (u32s (blockS s b).list).toArray.size := info49 _
              have hsize8 : (u32s s.list).toArray.size = (u32s (blockS s b).list).toArray.size := (size8 _).trans (size8 _).symm
              have hone8 : (u32s (blockS s b).list).toArray.all (·.oneCell') = true := all_oneCell_toArray (u32s_one _)
              have hagg : Hid ((Value.agg (u32s s.list).toArray) = Value.agg #[.int .u32 (c32 s.a), .int .u32 (c32 s.b), .int .u32 (c32 s.c), .int .u32 (c32 s.d), .int .u32 (c32 s.e), .int .u32 (c32 s.f), .int .u32 (c32 s.g), .int .u32 (c32 s.h)]) := rfl
              go_wp2_with fail
              refine wp_region_F 7 (by kernel_rfl) (fun hcl => ?_)
              replace hcur := below_via hcur (ext_drew _)
              replace e0 := Ext.trans e0 (ext_drew _)
              refine wpAnyF_take (fin := 7) (i := 0) (v := ?_) hcl (some 51) rfl rfl (by kernel_rfl) (by kernel_rfl) (by kernel_rfl) (fun _ _ _ h => h) (by kernel_rfl) ?_ (fun hcl => ?_)
              rotate_left 1
              · (refine Or.inl ⟨by rfl, ?_⟩; intro w' hw'; have hq := below_via hcur hw'; have hq_e0 := Ext.trans e0 hw'; have hz_v0 := v0 _ hq_e0; have hz_v1 := v1 _ hq_e0; have hz_v2 := v2 _ hq_e0; have hz_v3 := v3 _ hq_e0; have hz_v4 := v4 _ hq_e0; have hz_v5 := v5 _ hq_e0; have hz_v6 := v6 _ hq_e0; have hz_v7 := v7 _ hq_e0; (try go_simp); (try rfl); done)
              try simp only [Act.put, List.setIfInBounds_toArray, List.set_cons_zero, List.set_cons_succ]
              refine wpAnyF_take (fin := 7) (i := 1) (v := ?_) hcl (some 52) rfl rfl (by kernel_rfl) (by kernel_rfl) (by kernel_rfl) (fun _ _ _ h => h) (by kernel_rfl) ?_ (fun hcl => ?_)
              rotate_left 1
              · (refine Or.inl ⟨by rfl, ?_⟩; intro w' hw'; have hq := below_via hcur hw'; have hq_e0 := Ext.trans e0 hw'; have hz_v0 := v0 _ hq_e0; have hz_v1 := v1 _ hq_e0; have hz_v2 := v2 _ hq_e0; have hz_v3 := v3 _ hq_e0; have hz_v4 := v4 _ hq_e0; have hz_v5 := v5 _ hq_e0; have hz_v6 := v6 _ hq_e0; have hz_v7 := v7 _ hq_e0; (try go_simp); (try rfl); done)
              try simp only [Act.put, List.setIfInBounds_toArray, List.set_cons_zero, List.set_cons_succ]
              refine wpAnyF_take (fin := 7) (i := 2) (v := ?_) hcl (some 53) rfl rfl (by kernel_rfl) (by kernel_rfl) (by kernel_rfl) (fun _ _ _ h => h) (by kernel_rfl) ?_ (fun hcl => ?_)
              rotate_left 1
              · (refine Or.inl ⟨by rfl, ?_⟩; intro w' hw'; have hq := below_via hcur hw'; have hq_e0 := Ext.trans e0 hw'; have hz_v0 := v0 _ hq_e0; have hz_v1 := v1 _ hq_e0; have hz_v2 := v2 _ hq_e0; have hz_v3 := v3 _ hq_e0; have hz_v4 := v4 _ hq_e0; have hz_v5 := v5 _ hq_e0; have hz_v6 := v6 _ hq_e0; have hz_v7 := v7 _ hq_e0; (try go_simp); (try rfl); done)
              try simp only [Act.put, List.setIfInBounds_toArray, List.set_cons_zero, List.set_cons_succ]
              refine wpAnyF_take (fin := 7) (i := 3) (v := ?_) hcl (some 54) rfl rfl (by kernel_rfl) (by kernel_rfl) (by kernel_rfl) (fun _ _ _ h => h) (by kernel_rfl) ?_ (fun hcl => ?_)
              rotate_left 1
              · (refine Or.inl ⟨by rfl, ?_⟩; intro w' hw'; have hq := below_via hcur hw'; have hq_e0 := Ext.trans e0 hw'; have hz_v0 := v0 _ hq_e0; have hz_v1 := v1 _ hq_e0; have hz_v2 := v2 _ hq_e0; have hz_v3 := v3 _ hq_e0; have hz_v4 := v4 _ hq_e0; have hz_v5 := v5 _ hq_e0; have hz_v6 := v6 _ hq_e0; have hz_v7 := v7 _ hq_e0; (try go_simp); (try rfl); done)
              try simp only [Act.put, List.setIfInBounds_toArray, List.set_cons_zero, List.set_cons_succ]
              refine wpAnyF_take (fin := 7) (i := 4) (v := ?_) hcl (some 55) rfl rfl (by kernel_rfl) (by kernel_rfl) (by kernel_rfl) (fun _ _ _ h => h) (by kernel_rfl) ?_ (fun hcl => ?_)
              rotate_left 1
              · (refine Or.inl ⟨by rfl, ?_⟩; intro w' hw'; have hq := below_via hcur hw'; have hq_e0 := Ext.trans e0 hw'; have hz_v0 := v0 _ hq_e0; have hz_v1 := v1 _ hq_e0; have hz_v2 := v2 _ hq_e0; have hz_v3 := v3 _ hq_e0; have hz_v4 := v4 _ hq_e0; have hz_v5 := v5 _ hq_e0; have hz_v6 := v6 _ hq_e0; have hz_v7 := v7 _ hq_e0; (try go_simp); (try rfl); done)
              try simp only [Act.put, List.setIfInBounds_toArray, List.set_cons_zero, List.set_cons_succ]
              refine wpAnyF_take (fin := 7) (i := 5) (v := ?_) hcl (some 56) rfl rfl (by kernel_rfl) (by kernel_rfl) (by kernel_rfl) (fun _ _ _ h => h) (by kernel_rfl) ?_ (fun hcl => ?_)
              rotate_left 1
              · (refine Or.inl ⟨by rfl, ?_⟩; intro w' hw'; have hq := below_via hcur hw'; have hq_e0 := Ext.trans e0 hw'; have hz_v0 := v0 _ hq_e0; have hz_v1 := v1 _ hq_e0; have hz_v2 := v2 _ hq_e0; have hz_v3 := v3 _ hq_e0; have hz_v4 := v4 _ hq_e0; have hz_v5 := v5 _ hq_e0; have hz_v6 := v6 _ hq_e0; have hz_v7 := v7 _ hq_e0; (try go_simp); (try rfl); done)
              try simp only [Act.put, List.setIfInBounds_toArray, List.set_cons_zero, List.set_cons_succ]
              refine wpAnyF_one (fin := 7) (i := 6) hcl rfl (by kernel_rfl) (by rfl) (fun hcl K hK => ?_)
              go_simp
              have hcl := rblock_any s _ b hbl _ (hsl _ e0); rw [hagg.out] at hcl; (with_reducible refine hcl.mono ?_); clear hcl; rintro e w8 ⟨rfl, hb⟩
              refine hK.out _ _ hb ?_
              replace hcur := below_via hcur hb; clear hK K
              replace e0 := Ext.trans e0 hb
              try simp only [Act.put, List.setIfInBounds_toArray, List.set_cons_zero, List.set_cons_succ]
              refine wpAnyF_last (fin := 7) rfl (by kernel_rfl) (by kernel_rfl) (by rfl) (fun K hK => ?_)
              have hS8 := hS.below e0
              refine wp_store_row 74 _ _ rfl w6.heap.size (u32s (blockS s b).list).toArray rfl rfl 74 _ hS8 hinfo8 hsize8 hone8 ?_
              refine hK.out _ _ ?_
              clear hK K hcl
              go_wp2_with fail
              go_roundw
              case rel =>
                refine ⟨k + 1, by omega, by go_num, ?_, below_setRow (bw.trans (e0.mono bw.size)) (Nat.le_refl _) _⟩
                rw [hnx]; exact setRow_heap _ _ _ _ _ _ (hS.below e0)
              case measure => simp [intOf]; omega
            · have hkp : p.length / 64 = k := by omega
              have j3 : ¬ 64 * (k : Int) < p.length := by omega
              have hsha2 := hsha.out
              rw [hkp] at hsha2
              generalize blocks k first8 p = T at hS hsha2
              replace hsha2 : Hid (sha xs = T.bytes) := hsha2
              clear hrr5 hA5 hcm5 hc5 hv6 hp64 hpm hsha
              go_wp2_with fail
              have hsz7 := bw.size
              have hD : Row32 (wr.alloc (.cells (bs (List.replicate 32 0)).toArray 29 (0, 0))) wr.heap.size (T.bytes.take 0 ++ List.replicate (32 - 0) 0) := heap_alloc_new _ _
              have bw7 : Below w6.heap.size w6 (wr.alloc (.cells (bs (List.replicate 32 0)).toArray 29 (0, 0))) := bw.trans ((Below.refl _ wr).alloc hsz7 _)
              have hSD : w6.heap.size < wr.heap.size := (Array.getElem?_eq_some_iff.1 hS).1
              have hS7 : Row8 (wr.alloc (.cells (bs (List.replicate 32 0)).toArray 29 (0, 0))) w6.heap.size T := hS.below (ext_alloc _ _)
              generalize wr.heap.size = D at hD hSD
              go_loopw [10] (fun i wr => ∃ k : Nat, k ≤ 32 ∧ i = .int .i64 k ∧ Row32 wr D (T.bytes.take k ++ List.replicate (32 - k) 0) ∧ Row8 wr w6.heap.size T ∧ Below w6.heap.size w6 wr) (fun i _ => 32 - (intOf i).toNat)
              case atStart => exact ⟨0, by omega, rfl, hD, hS7, bw7⟩
              case round =>
                clear hD hS7 bw7 hS bw
                obtain ⟨k, hk, rfl, hD, hS, bw⟩ := hrel
                by_cases h32 : k < 32
                · have hc := (hS.cell (j := k / 4) (by omega)).1
                  have hbl : (T.bytes.take k ++ List.replicate (32 - k) 0).length = 32 := by
                    have : T.bytes.length = 32 := rfl
                    simp; omega
                  have f0 := hD.cell (j := k) (by omega)
                  have hb := bytes_get T k h32
                  have hset := hD.set k (T.bytes.getD k 0)
                  generalize T.list.getD (k / 4) 0 = q at hc hb
                  go_wp2_with fail
                  refine ⟨⟨k + 1, by omega, by go_num, ?_, ?_, below_setCell bw (Nat.le_of_lt hSD) _⟩, by simp [intOf]; omega⟩
                  · rw [qn _ _ (by omega), ← hb]
                    have e4 := set_fill T.bytes k h32
                    have : T.bytes.length = 32 := rfl
                    rw [this] at e4
                    rw [← e4]; exact hset
                  · exact (heap_setCell_other _ _ _ _ (Nat.ne_of_lt hSD)).trans hS
                · obtain rfl : k = 32 := by omega
                  have hfull : T.bytes.take 32 ++ List.replicate (32 - 32) 0 = T.bytes := rfl
                  rw [hfull] at hD
                  have hrD : wr.rangeAt D 0 (bs T.bytes) := fun j v hj => by
                    have hlt : j < T.bytes.length := by have := (List.getElem?_eq_some_iff.1 hj).1; rwa [bs_length] at this
                    rw [Nat.zero_add, (hD.cell hlt).1, ← hj, bs_get _ hlt]
                  have hone2 : (bs T.bytes).toArray.all (·.oneCell') = true := all_oneCell_toArray (bs_one _)
                  have hr8 := hr6.below bw
                  have hret := load32 (w := wr.setRow w.heap.size (bs T.bytes).toArray) (D := w.heap.size) (setRow_heap wr w.heap.size _ _ _ _ hr8) (T.bytes_length)
                  have bw8 := below_setRow (bw6.trans (bw.mono bw6.size)) (Nat.le_refl _) (bs T.bytes).toArray
                  have hinf := info32 T.bytes_length
                  clear hD hfull
                  go_wp2_with (first | (refine wpList_load_mid rfl 29 _ rfl D 0 rfl _ _ hrD Try.underlying29 rfl (by kernel_rfl) ?_) | (refine wpList_store_row rfl 29 _ _ rfl w.heap.size (bs T.bytes).toArray rfl rfl 29 _ hr8 (by kernel_rfl) rfl hone2 ?_))
                  refine ret_cell (v := dg T.bytes) Try.results33 rfl hret rfl ⟨?_, bw8⟩
                  rw [hsha2.out]
    · have e1 : ¬ ((xs.length : Int) + 1 + (j : Int)) % 64 = 56 := by have := fun h => hjz (hz.1 h); omega
      go_wp2_with (at_builtin; go_loud (refine wpl_apB (B := w.heap.size + 1) rfl _ _ rfl rfl (h2.below (ext_alloc _ _)) rfl (slB_one _ 0 _ _) (by rw [hlj]; simp; omega) (by simp [size_alloc]; omega) ?_))
      intro v3 w3 h3 b4
      have h3' : OwB (w.heap.size + 1) w3 v3 (xs ++ 0x80 :: List.replicate (j + 1) 0) := by
        rw [List.replicate_succ']; simpa using h3
      have hs4 : w.heap.size + 1 ≤ w3.heap.size := by have := b4.size; simp [size_alloc] at this; omega
      have b5 := b3.trans (((Below.refl _ W0).alloc hs3 (.cells #[.int .u8 0] 5 (0, 0))).trans b4)
      go_wp2_with fail
      go_roundw
      case rel => exact ⟨j + 1, by omega, h3', hs4, b5⟩
      case measure =>
        rw [h3'.len, hln]
        simp; omega
end Go.Proofs.Ytcaaeimcieooiaa

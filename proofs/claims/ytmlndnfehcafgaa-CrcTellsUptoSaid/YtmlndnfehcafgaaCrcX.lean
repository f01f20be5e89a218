/- The law CrcTells, walked. -/
import Derived.Test.YtmlndnfehcafgaaCrcU
set_option linter.unusedVariables false
set_option linter.unusedSimpArgs false
namespace Go.Proofs.Ytmlndnfehcafgaa
open Go.RowKit

theorem be32_inj {a b : UInt32} (h : be32 a = be32 b) : a = b := by
  have h2 : bs (be32 a) = bs (be32 b) := by rw [h]
  rw [be32_cells, be32_cells] at h2
  have h0 := c32_nonneg a; have h1 := c32_nonneg b
  simp only [List.cons.injEq, Value.int.injEq, true_and, and_true] at h2
  apply c32_inj.1
  omega
/-- A frame of which one bit was turned is none. -/
theorem put_flip (xs : List UInt8) (k : Nat) (hk : k < 8 * (crcPut xs).length) : 4 ≤ (flip (crcPut xs) k).length ∧ crcPut ((flip (crcPut xs) k).take ((flip (crcPut xs) k).length - 4)) ≠ flip (crcPut xs) k := by
  have hl := crcPut_length xs
  have hfl := flip_length (crcPut xs) k
  refine ⟨by omega, fun he => ?_⟩
  rw [hfl, hl, Nat.add_sub_cancel] at he
  have htb : ∀ j, tbit (flip (crcPut xs) k) j = xor (tbit (crcPut xs) j) (decide (j = k)) := fun j => tbit_flip _ k j hk
  have hpx : ∀ zs : List UInt8, crcPut zs = zs ++ be32 (crcMore 0 zs) := fun zs => rfl
  have hbl : ∀ n, (be32 n).length = 4 := fun n => rfl
  by_cases hc : k / 8 < xs.length
  · have hdrop : (flip (crcPut xs) k).drop xs.length = be32 (crcMore 0 xs) := by
      unfold flip
      rw [List.drop_set_of_lt hc, hpx, List.drop_left]
    have htl : ((flip (crcPut xs) k).take xs.length).length = xs.length := by rw [List.length_take, hfl, hl]; omega
    have htake : ∀ j, j / 8 < xs.length → tbit ((flip (crcPut xs) k).take xs.length) j = xor (tbit xs j) (decide (j = k)) := fun j hj => by
      have e1 : tbit ((flip (crcPut xs) k).take xs.length) j = tbit (flip (crcPut xs) k) j := by
        unfold tbit; rw [List.getD_eq_getElem?_getD, List.getD_eq_getElem?_getD, List.getElem?_take, if_pos hj]
      have e2 : tbit (crcPut xs) j = tbit xs j := by
        unfold tbit; rw [hpx, List.getD_eq_getElem?_getD, List.getD_eq_getElem?_getD, List.getElem?_append_left hj]
      rw [e1, htb, e2]
    have hout : ∀ (zs : List UInt8) (j : Nat), zs.length ≤ j / 8 → tbit zs j = false := fun zs j hj => by
      unfold tbit; rw [List.getD_eq_getElem?_getD, List.getElem?_eq_none hj]; simp
    have hd : (crcPut ((flip (crcPut xs) k).take xs.length)).drop xs.length = be32 (crcMore 0 ((flip (crcPut xs) k).take xs.length)) := by
      rw [hpx]
      have := List.drop_left (l₁ := (flip (crcPut xs) k).take xs.length) (l₂ := be32 (crcMore 0 ((flip (crcPut xs) k).take xs.length)))
      rwa [htl] at this
    rw [he, hdrop] at hd
    refine crc_burst 0 xs ((flip (crcPut xs) k).take xs.length) k htl.symm (by omega) (fun j hj => ?_) ?_ (fun j hj => ?_) (be32_inj hd)
    · rw [htake j (by omega), decide_eq_false (by omega), Bool.xor_false]
    · rw [htake k hc, decide_eq_true rfl]; cases tbit xs k <;> decide
    · by_cases hj8 : j / 8 < xs.length
      · rw [htake j hj8, decide_eq_false (by omega), Bool.xor_false]
      · rw [hout xs j (by omega), hout _ j (by rw [htl]; omega)]
  · have htake : (flip (crcPut xs) k).take xs.length = xs := by
      unfold flip
      rw [List.take_set_of_le (by omega), hpx, List.take_left]
    rw [htake] at he
    have h1 := htb k
    rw [← he, decide_eq_true rfl] at h1
    cases hq : tbit (crcPut xs) k <;> rw [hq] at h1 <;> cases h1

theorem flip_at {w : World} {B n c g : Nat} {ys : List UInt8} (h : OwB B w (.slice (some ⟨g, 0, none⟩) n c) ys) (hn : n = ys.length) (q : Nat) : OwB B (w.setCell ⟨g, q / 8, none⟩ (.int .u8 (c8 (ys.getD (q / 8) 0 ^^^ (1 <<< UInt8.ofNat (q % 8)))))) (.slice (some ⟨g, 0, none⟩) n c) (flip ys q) := h.set hn _ _

set_option maxRecDepth 10000 in
set_option maxHeartbeats 2000000 in
theorem law_ne (v : Value) (xs : List UInt8) (at_ : Int) (n : UInt32) (w : World) (hv : SlB w v xs) (hl : xs.length ≤ 1048576) (ha1 : -9223372036854775808 ≤ at_) (ha2 : at_ ≤ 9223372036854775807) (hn : n ≠ 0) :
    Calls Try.prog 5 #[v, .int .i64 at_, .int .u32 (c32 n)] w fun e w' => e = .returned (.bool true) ∧ Below w.heap.size w w' := by
  obtain ⟨W, hW⟩ : ∃ W, (w.alloc (.cells #[.int .i64 at_] 3 (0, 0))).alloc (.cells #[.int .u32 (c32 n)] 23 (0, 0)) = W := ⟨_, rfl⟩
  have bw : Ext w W := hW ▸ Ext.trans (ext_alloc _ _) (ext_alloc _ _)
  have hga : W.cell? ⟨w.heap.size, 0, none⟩ = some (.int .i64 at_) := by rw [← hW]; simp [go_sem]
  have hgb : W.cell? ⟨w.heap.size + 1, 0, none⟩ = some (.int .u32 (c32 n)) := by rw [← hW]; simp [go_sem]
  have hvW := hv.below bw
  have hmf : ∀ (fn : Fn) (first cap : Array Value) (w : World), (Instr.makeFunc fn first cap).run Try.prog w = .ok (.func fn first cap) w := fun _ _ _ _ => rfl
  obtain ⟨A, c, rfl, hc, hcm, hA, hrr⟩ := id hvW
  clear hrr hA hv
  have hq : (c32 n == 0) = false := by rw [beq_eq_false_iff_ne]; intro h; exact hn (c32_inj.1 h)
  have hpl := crcPut_length xs
  by_cases h0 : xs.length = 0
  · have h0i : ¬ (0 : Int) < xs.length := by omega
    clear h0
    go_enter Try.func5, Try.ntmps5
    go_wp2_with fail
    (with_reducible refine (put_any _ xs _ (by omega) hvW).mono ?_); rintro e w3 ⟨v3, rfl, ho3, b3⟩
    have bw3 := Below.trans (Ext.refl W) (b3.mono (Below.size (Ext.refl W)))
    have ga3 := (bw3.cell (World.block_lt_of_cell? _ _ hga)).trans hga
    have hpf := fun q => put_flip xs q
    have hcp : Hid (crcPut xs = crcPut xs) := rfl
    generalize crcPut xs = cp at ho3 hpl hpf
    clear hcp
    obtain ⟨A3, c3, rfl, _⟩ := id ho3.sl
    have bW3 := Ext.trans bw bw3
    have hs3 := ho3.sl
    have hL1 : cp.length ≤ 1048580 := by omega
    have hL2 : 0 < cp.length := by omega
    have qlen : ((cp.length : Int) != (xs.length : Int) + 4) = false := by rw [hpl]; simp
    replace hpl : Hid _ := hpl
    clear b3 ho3
    go_wp2_with (at_builtin; go_loud (refine wpl_cpB rfl _ _ rfl rfl rfl hs3 (by omega) ?_))
    intro v4 w4 ho4 b4
    obtain ⟨A4, c4, rfl, _⟩ := id ho4.sl
    obtain ⟨g4, rfl, hg4, _⟩ := ho4.some hL2
    have bW4 := Ext.trans bW3 b4
    have ga4 := (b4.cell (World.block_lt_of_cell? _ _ ga3)).trans ga3
    obtain ⟨q, hqm, hq2⟩ := mod_at at_ (8 * cp.length) (by omega)
    have wq : Hid (RowKit.wrap64 (q : Int) = q) := by unfold Hid RowKit.wrap64; omega
    rw [show ((8 * cp.length : Nat) : Int) = 8 * (cp.length : Int) by omega] at hqm
    replace hqm : Hid _ := hqm
    replace hpf := hpf q hq2
    have hfl : (flip cp q).length ≤ 1048580 := by rw [flip_length]; exact hL1
    have i0 : (0 : Int) ≤ (q : Int) / 8 := by omega
    have i1 : (q : Int) / 8 < cp.length := by omega
    have i2 : ((q : Int) / 8).toNat = q / 8 := by omega
    have i3 : q / 8 < cp.length := by omega
    have f1 := World.ownsRow.cellAt ho4 (q / 8) (by rw [Nat.mul_one]; exact i3)
    rw [bs_get cp i3] at f1
    have f2 := World.ownsRow.frozenAt ho4 (q / 8)
    have hset := flip_at ho4 rfl q
    clear ho4 hs3
    generalize cp.getD (q / 8) 0 = y at f1 hset
    replace hset : Hid _ := hset
    replace hpf : Hid _ := hpf
    replace hfl : Hid _ := hfl
    replace wq := wq.out
    replace hqm := hqm.out
    clear i0 i1 i2 i3
    go_wp2_with fail
    clear wq hqm
    rw [shl8 _ (Nat.mod_lt _ (by decide)), bits_xor8]
    have hs5 := OwB.sl hset.out
    have b5 := below_setCell bW4 (show w.heap.size ≤ g4 by have := bW3.size; omega) (j := q / 8) (.int .u8 (c8 (y ^^^ 1 <<< UInt8.ofNat (q % 8))))
    (with_reducible refine (take_none _ (flip cp q) _ (by have := hfl.out; omega) (.inr hpf.out) hs5).mono ?_); rintro e w6 ⟨rfl, b6⟩
    have b7 := Below.trans b5 (b6.mono b5.size)
    clear hs5 hset b5 b6 f1 f2
    go_wp2_with fail
    refine (wakes_any _).mono ?_
    rintro e w8 ⟨rfl, b8⟩
    go_wp2_with fail
    go_ret
    exact ⟨rfl, Below.trans b7 (b8.mono b7.size)⟩
  · have h0' : 0 < xs.length := by omega
    have h0i : (0 : Int) < xs.length := by omega
    go_enter Try.func5, Try.ntmps5
    go_wp2_with fail
    (with_reducible refine (turned_any _ xs _ _ at_ n hn _ hvW h0' hl ha1 ha2 hga hgb).mono ?_); rintro e w1 ⟨v1, ys, rfl, ho1, hbu, b1⟩
    obtain ⟨hyl, f, hf, t1, t2, t3⟩ := hbu
    have hne : (c32 (crcMore 0 ys) == c32 (crcMore 0 xs)) = false := by
      rw [beq_eq_false_iff_ne]
      intro h
      exact crc_burst 0 ys xs f hyl (by rw [hyl]; exact hf) t1 t2 t3 (c32_inj.1 h)
    have hv1 := hvW.below b1
    have hsy := ho1.sl
    have hyl2 : ys.length ≤ 1099511627776 := by rw [hyl]; omega
    clear hf t1 t2 t3 hyl ho1
    go_wp2_with fail
    (with_reducible refine (sumV _ ys _ hyl2 hsy).mono ?_); rintro e w2 ⟨rfl, b2⟩
    have hv2 := hv1.below b2
    go_wp2_with fail
    (with_reducible refine (sumV _ xs _ (by omega) hv2).mono ?_); rintro e w2' ⟨rfl, b2'⟩
    have hv2' := hv2.below b2'
    have bw2 := Ext.trans b1 (Ext.trans b2 b2')
    clear b1 b2 b2' hv1 hv2 hsy hyl2 hvW
    go_wp2_with fail
    (with_reducible refine (put_any _ xs _ (by omega) hv2').mono ?_); rintro e w3 ⟨v3, rfl, ho3, b3⟩
    have bw3 := Below.trans bw2 (b3.mono (Below.size bw2))
    have ga3 := (bw3.cell (World.block_lt_of_cell? _ _ hga)).trans hga
    have hpf := fun q => put_flip xs q
    have hcp : Hid (crcPut xs = crcPut xs) := rfl
    generalize crcPut xs = cp at ho3 hpl hpf
    clear hcp
    obtain ⟨A3, c3, rfl, _⟩ := id ho3.sl
    have bW3 := Ext.trans bw bw3
    have hs3 := ho3.sl
    have hL1 : cp.length ≤ 1048580 := by omega
    have hL2 : 0 < cp.length := by omega
    have qlen : ((cp.length : Int) != (xs.length : Int) + 4) = false := by rw [hpl]; simp
    replace hpl : Hid _ := hpl
    clear b3 ho3
    go_wp2_with (at_builtin; go_loud (refine wpl_cpB rfl _ _ rfl rfl rfl hs3 (by omega) ?_))
    intro v4 w4 ho4 b4
    obtain ⟨A4, c4, rfl, _⟩ := id ho4.sl
    obtain ⟨g4, rfl, hg4, _⟩ := ho4.some hL2
    have bW4 := Ext.trans bW3 b4
    have ga4 := (b4.cell (World.block_lt_of_cell? _ _ ga3)).trans ga3
    obtain ⟨q, hqm, hq2⟩ := mod_at at_ (8 * cp.length) (by omega)
    have wq : Hid (RowKit.wrap64 (q : Int) = q) := by unfold Hid RowKit.wrap64; omega
    rw [show ((8 * cp.length : Nat) : Int) = 8 * (cp.length : Int) by omega] at hqm
    replace hqm : Hid _ := hqm
    replace hpf := hpf q hq2
    have hfl : (flip cp q).length ≤ 1048580 := by rw [flip_length]; exact hL1
    have i0 : (0 : Int) ≤ (q : Int) / 8 := by omega
    have i1 : (q : Int) / 8 < cp.length := by omega
    have i2 : ((q : Int) / 8).toNat = q / 8 := by omega
    have i3 : q / 8 < cp.length := by omega
    have f1 := World.ownsRow.cellAt ho4 (q / 8) (by rw [Nat.mul_one]; exact i3)
    rw [bs_get cp i3] at f1
    have f2 := World.ownsRow.frozenAt ho4 (q / 8)
    have hset := flip_at ho4 rfl q
    clear ho4 hs3
    generalize cp.getD (q / 8) 0 = y at f1 hset
    replace hset : Hid _ := hset
    replace hpf : Hid _ := hpf
    replace hfl : Hid _ := hfl
    replace wq := wq.out
    replace hqm := hqm.out
    clear i0 i1 i2 i3
    go_wp2_with fail
    clear wq hqm
    rw [shl8 _ (Nat.mod_lt _ (by decide)), bits_xor8]
    have hs5 := OwB.sl hset.out
    have b5 := below_setCell bW4 (show w.heap.size ≤ g4 by have := bW3.size; omega) (j := q / 8) (.int .u8 (c8 (y ^^^ 1 <<< UInt8.ofNat (q % 8))))
    (with_reducible refine (take_none _ (flip cp q) _ (by have := hfl.out; omega) (.inr hpf.out) hs5).mono ?_); rintro e w6 ⟨rfl, b6⟩
    have b7 := Below.trans b5 (b6.mono b5.size)
    clear hs5 hset b5 b6 f1 f2
    go_wp2_with fail
    refine (wakes_any _).mono ?_
    rintro e w8 ⟨rfl, b8⟩
    go_wp2_with fail
    go_ret
    exact ⟨rfl, Below.trans b7 (b8.mono b7.size)⟩

set_option maxRecDepth 10000 in
set_option maxHeartbeats 2000000 in
theorem law_zero (v : Value) (xs : List UInt8) (at_ : Int) (w : World) (hv : SlB w v xs) (hl : xs.length ≤ 1048576) (ha1 : -9223372036854775808 ≤ at_) (ha2 : at_ ≤ 9223372036854775807) :
    Calls Try.prog 5 #[v, .int .i64 at_, .int .u32 0] w fun e w' => e = .returned (.bool true) ∧ Below w.heap.size w w' := by
  obtain ⟨W, hW⟩ : ∃ W, (w.alloc (.cells #[.int .i64 at_] 3 (0, 0))).alloc (.cells #[.int .u32 1] 23 (0, 0)) = W := ⟨_, rfl⟩
  have bw : Ext w W := hW ▸ Ext.trans (ext_alloc _ _) (ext_alloc _ _)
  have hga : W.cell? ⟨w.heap.size, 0, none⟩ = some (.int .i64 at_) := by rw [← hW]; simp [go_sem]
  have hgb : W.cell? ⟨w.heap.size + 1, 0, none⟩ = some (.int .u32 1) := by rw [← hW]; simp [go_sem]
  have hvW := hv.below bw
  have hmf : ∀ (fn : Fn) (first cap : Array Value) (w : World), (Instr.makeFunc fn first cap).run Try.prog w = .ok (.func fn first cap) w := fun _ _ _ _ => rfl
  obtain ⟨A, c, rfl, hc, hcm, hA, hrr⟩ := id hvW
  clear hrr hA hv
  have hpl := crcPut_length xs
  by_cases h0 : xs.length = 0
  · have h0i : ¬ (0 : Int) < xs.length := by omega
    clear h0
    go_enter Try.func5, Try.ntmps5
    go_wp2_with fail
    (with_reducible refine (put_any _ xs _ (by omega) hvW).mono ?_); rintro e w3 ⟨v3, rfl, ho3, b3⟩
    have bw3 := Below.trans (Ext.refl W) (b3.mono (Below.size (Ext.refl W)))
    have ga3 := (bw3.cell (World.block_lt_of_cell? _ _ hga)).trans hga
    have hpf := fun q => put_flip xs q
    have hcp : Hid (crcPut xs = crcPut xs) := rfl
    generalize crcPut xs = cp at ho3 hpl hpf
    clear hcp
    obtain ⟨A3, c3, rfl, _⟩ := id ho3.sl
    have bW3 := Ext.trans bw bw3
    have hs3 := ho3.sl
    have hL1 : cp.length ≤ 1048580 := by omega
    have hL2 : 0 < cp.length := by omega
    have qlen : ((cp.length : Int) != (xs.length : Int) + 4) = false := by rw [hpl]; simp
    replace hpl : Hid _ := hpl
    clear b3 ho3
    go_wp2_with (at_builtin; go_loud (refine wpl_cpB rfl _ _ rfl rfl rfl hs3 (by omega) ?_))
    intro v4 w4 ho4 b4
    obtain ⟨A4, c4, rfl, _⟩ := id ho4.sl
    obtain ⟨g4, rfl, hg4, _⟩ := ho4.some hL2
    have bW4 := Ext.trans bW3 b4
    have ga4 := (b4.cell (World.block_lt_of_cell? _ _ ga3)).trans ga3
    obtain ⟨q, hqm, hq2⟩ := mod_at at_ (8 * cp.length) (by omega)
    have wq : Hid (RowKit.wrap64 (q : Int) = q) := by unfold Hid RowKit.wrap64; omega
    rw [show ((8 * cp.length : Nat) : Int) = 8 * (cp.length : Int) by omega] at hqm
    replace hqm : Hid _ := hqm
    replace hpf := hpf q hq2
    have hfl : (flip cp q).length ≤ 1048580 := by rw [flip_length]; exact hL1
    have i0 : (0 : Int) ≤ (q : Int) / 8 := by omega
    have i1 : (q : Int) / 8 < cp.length := by omega
    have i2 : ((q : Int) / 8).toNat = q / 8 := by omega
    have i3 : q / 8 < cp.length := by omega
    have f1 := World.ownsRow.cellAt ho4 (q / 8) (by rw [Nat.mul_one]; exact i3)
    rw [bs_get cp i3] at f1
    have f2 := World.ownsRow.frozenAt ho4 (q / 8)
    have hset := flip_at ho4 rfl q
    clear ho4 hs3
    generalize cp.getD (q / 8) 0 = y at f1 hset
    replace hset : Hid _ := hset
    replace hpf : Hid _ := hpf
    replace hfl : Hid _ := hfl
    replace wq := wq.out
    replace hqm := hqm.out
    clear i0 i1 i2 i3
    go_wp2_with fail
    clear wq hqm
    rw [shl8 _ (Nat.mod_lt _ (by decide)), bits_xor8]
    have hs5 := OwB.sl hset.out
    have b5 := below_setCell bW4 (show w.heap.size ≤ g4 by have := bW3.size; omega) (j := q / 8) (.int .u8 (c8 (y ^^^ 1 <<< UInt8.ofNat (q % 8))))
    (with_reducible refine (take_none _ (flip cp q) _ (by have := hfl.out; omega) (.inr hpf.out) hs5).mono ?_); rintro e w6 ⟨rfl, b6⟩
    have b7 := Below.trans b5 (b6.mono b5.size)
    clear hs5 hset b5 b6 f1 f2
    go_wp2_with fail
    refine (wakes_any _).mono ?_
    rintro e w8 ⟨rfl, b8⟩
    go_wp2_with fail
    go_ret
    exact ⟨rfl, Below.trans b7 (b8.mono b7.size)⟩
  · have h0' : 0 < xs.length := by omega
    have h0i : (0 : Int) < xs.length := by omega
    go_enter Try.func5, Try.ntmps5
    go_wp2_with fail
    (with_reducible refine (turned_any _ xs _ _ at_ 1 (by decide) _ hvW h0' hl ha1 ha2 hga hgb).mono ?_); rintro e w1 ⟨v1, ys, rfl, ho1, hbu, b1⟩
    obtain ⟨hyl, f, hf, t1, t2, t3⟩ := hbu
    have hne : (c32 (crcMore 0 ys) == c32 (crcMore 0 xs)) = false := by
      rw [beq_eq_false_iff_ne]
      intro h
      exact crc_burst 0 ys xs f hyl (by rw [hyl]; exact hf) t1 t2 t3 (c32_inj.1 h)
    have hv1 := hvW.below b1
    have hsy := ho1.sl
    have hyl2 : ys.length ≤ 1099511627776 := by rw [hyl]; omega
    clear hf t1 t2 t3 hyl ho1
    go_wp2_with fail
    (with_reducible refine (sumV _ ys _ hyl2 hsy).mono ?_); rintro e w2 ⟨rfl, b2⟩
    have hv2 := hv1.below b2
    go_wp2_with fail
    (with_reducible refine (sumV _ xs _ (by omega) hv2).mono ?_); rintro e w2' ⟨rfl, b2'⟩
    have hv2' := hv2.below b2'
    have bw2 := Ext.trans b1 (Ext.trans b2 b2')
    clear b1 b2 b2' hv1 hv2 hsy hyl2 hvW
    go_wp2_with fail
    (with_reducible refine (put_any _ xs _ (by omega) hv2').mono ?_); rintro e w3 ⟨v3, rfl, ho3, b3⟩
    have bw3 := Below.trans bw2 (b3.mono (Below.size bw2))
    have ga3 := (bw3.cell (World.block_lt_of_cell? _ _ hga)).trans hga
    have hpf := fun q => put_flip xs q
    have hcp : Hid (crcPut xs = crcPut xs) := rfl
    generalize crcPut xs = cp at ho3 hpl hpf
    clear hcp
    obtain ⟨A3, c3, rfl, _⟩ := id ho3.sl
    have bW3 := Ext.trans bw bw3
    have hs3 := ho3.sl
    have hL1 : cp.length ≤ 1048580 := by omega
    have hL2 : 0 < cp.length := by omega
    have qlen : ((cp.length : Int) != (xs.length : Int) + 4) = false := by rw [hpl]; simp
    replace hpl : Hid _ := hpl
    clear b3 ho3
    go_wp2_with (at_builtin; go_loud (refine wpl_cpB rfl _ _ rfl rfl rfl hs3 (by omega) ?_))
    intro v4 w4 ho4 b4
    obtain ⟨A4, c4, rfl, _⟩ := id ho4.sl
    obtain ⟨g4, rfl, hg4, _⟩ := ho4.some hL2
    have bW4 := Ext.trans bW3 b4
    have ga4 := (b4.cell (World.block_lt_of_cell? _ _ ga3)).trans ga3
    obtain ⟨q, hqm, hq2⟩ := mod_at at_ (8 * cp.length) (by omega)
    have wq : Hid (RowKit.wrap64 (q : Int) = q) := by unfold Hid RowKit.wrap64; omega
    rw [show ((8 * cp.length : Nat) : Int) = 8 * (cp.length : Int) by omega] at hqm
    replace hqm : Hid _ := hqm
    replace hpf := hpf q hq2
    have hfl : (flip cp q).length ≤ 1048580 := by rw [flip_length]; exact hL1
    have i0 : (0 : Int) ≤ (q : Int) / 8 := by omega
    have i1 : (q : Int) / 8 < cp.length := by omega
    have i2 : ((q : Int) / 8).toNat = q / 8 := by omega
    have i3 : q / 8 < cp.length := by omega
    have f1 := World.ownsRow.cellAt ho4 (q / 8) (by rw [Nat.mul_one]; exact i3)
    rw [bs_get cp i3] at f1
    have f2 := World.ownsRow.frozenAt ho4 (q / 8)
    have hset := flip_at ho4 rfl q
    clear ho4 hs3
    generalize cp.getD (q / 8) 0 = y at f1 hset
    replace hset : Hid _ := hset
    replace hpf : Hid _ := hpf
    replace hfl : Hid _ := hfl
    replace wq := wq.out
    replace hqm := hqm.out
    clear i0 i1 i2 i3
    go_wp2_with fail
    clear wq hqm
    rw [shl8 _ (Nat.mod_lt _ (by decide)), bits_xor8]
    have hs5 := OwB.sl hset.out
    have b5 := below_setCell bW4 (show w.heap.size ≤ g4 by have := bW3.size; omega) (j := q / 8) (.int .u8 (c8 (y ^^^ 1 <<< UInt8.ofNat (q % 8))))
    (with_reducible refine (take_none _ (flip cp q) _ (by have := hfl.out; omega) (.inr hpf.out) hs5).mono ?_); rintro e w6 ⟨rfl, b6⟩
    have b7 := Below.trans b5 (b6.mono b5.size)
    clear hs5 hset b5 b6 f1 f2
    go_wp2_with fail
    refine (wakes_any _).mono ?_
    rintro e w8 ⟨rfl, b8⟩
    go_wp2_with fail
    go_ret
    exact ⟨rfl, Below.trans b7 (b8.mono b7.size)⟩

theorem law_CrcTells (v : Value) (xs : List UInt8) (at_ : Int) (n : UInt32) (w : World) (hv : SlB w v xs) (hl : xs.length ≤ 1048576) (hat : -9223372036854775808 ≤ at_ ∧ at_ ≤ 9223372036854775807) :
    Calls Try.prog 5 #[v, .int .i64 at_, .int .u32 (c32 n)] w fun e w' => e = .returned (.bool true) ∧ Below w.heap.size w w' := by
  by_cases hn : n = 0
  · subst hn; exact law_zero v xs at_ w hv hl hat.1 hat.2
  · exact law_ne v xs at_ n w hv hl hat.1 hat.2 hn
end Go.Proofs.Ytmlndnfehcafgaa

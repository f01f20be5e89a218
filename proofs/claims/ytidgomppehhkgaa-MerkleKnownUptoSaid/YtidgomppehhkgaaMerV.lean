/- Levels of the reference (walk). -/
import Derived.Test.YtidgomppehhkgaaMerU
set_option linter.unusedVariables false
set_option linter.unusedSimpArgs false
namespace Go.Proofs.Ytidgomppehhkgaa
open Go.RowKit
attribute [local go_sem high] dg_cells guard_dg rs_l rs_lh rs_lhm rs_h rs_hm rs_all

theorem levN_take (ds : List (List UInt8)) (i k : Nat) (h : k < ds.length / 2 ^ i) : (levN ds i).take (k + 1) = (levN ds i).take k ++ [partL ds i k] := by
  have hl : k < (levN ds i).length := by rw [levN_length]; exact h
  rw [List.take_succ_eq_append_getElem hl]
  congr 1
  simp [levN]
set_option maxRecDepth 10000 in
set_option maxHeartbeats 4000000 in
theorem rlevels_any (v : Value) (ds : List (List UInt8)) (w : World) (hv : SlD w v ds) (hl : ds.length ≤ 1048576) :
    Calls Try.prog 14 #[v] w fun e w' => ∃ v' vs, e = .returned v' ∧ OwL w.heap.size w' v' vs ∧ Rws w.heap.size w' vs (lvls ds) ∧ Below w.heap.size w w' := by
  have h32 := hv.2
  have hle := lvl_le ds.length hl
  have hvv := hv
  obtain ⟨⟨A, c, rfl, hc, hcm, _, _⟩, _⟩ := hvv
  go_enter Try.func14, Try.ntmps14
  go_wp2_with fail
  go_loopw [3, 4] (fun l s wr => ∃ (i sz : Nat) (vs : List Value), Hid (sz = 2 ^ i) ∧ i ≤ lvl ds.length ∧ 1 ≤ sz ∧ sz ≤ 2 * ds.length + 1 ∧ s = .int .i64 sz ∧ OwL w.heap.size wr l vs ∧ Rws w.heap.size wr vs ((lvls ds).take i) ∧ Below w.heap.size w wr)
    (fun _ s _ => 2 * ds.length + 2 - (intOf s).toNat)
  case atStart => exact ⟨0, 1, [], rfl, by omega, by omega, by omega, rfl, OwL.nil _ _, by simpa using Rws.nil _ _, Below.refl _ _⟩
  case round =>
    obtain ⟨i, sz, vs, hsz, hi, hs1, hs2, rfl, hol, hrw, bw⟩ := hrel
    have hpos := lvl_spec ds.length (by omega) i
    rw [← hsz.out, Nat.div_pos_iff] at hpos
    by_cases hlt : sz ≤ ds.length
    · have hil : i < lvl ds.length := hpos.2 ⟨by omega, hlt⟩
      have htk := lvls_take ds i hil
      have hvl : vs.length ≤ 21 := by rw [hrw.len, List.length_take]; omega
      have hlen := levN_length ds i
      rw [← hsz.out] at hlen
      have hn : 0 < (levN ds i).length := by rw [hlen]; exact Nat.div_pos hlt (by omega)
      have ht := levN_take ds i
      rw [← hsz.out] at ht
      have hpl : ∀ k, partL ds i k = rootL ((ds.drop (k * sz)).take sz) := fun k => by unfold partL; rw [← hsz.out]
      generalize levN ds i = row at *
      replace htk : Hid _ := htk
      replace ht : Hid _ := ht
      replace hlen : Hid _ := hlen
      replace hpos : Hid _ := hpos
      generalize hW : wr = W at *
      clear hW
      have hwz := bw.size
      go_wp2_with fail
      go_loopw [5, 6] (fun nx ix w' => ∃ k a : Nat, Hid (a = k * sz) ∧ a ≤ ds.length ∧ ix = .int .i64 a ∧ k ≤ row.length ∧ OwD W.heap.size w' nx (row.take k) ∧ Below W.heap.size W w') (fun _ ix _ => ds.length - (intOf ix).toNat)
      case atStart => exact ⟨0, 0, by unfold Hid; omega, by omega, rfl, by omega, by simpa using OwD.nil _ _, Below.refl _ _⟩
      case round =>
        obtain ⟨k, a, ha, haL, rfl, hk, hox, bx⟩ := hrel
        have hkl : a + sz ≤ ds.length ↔ k < row.length := by
          rw [hlen.out, ha.out, ← Nat.succ_le_iff, Nat.le_div_iff_mul_le (by omega), Nat.succ_mul]
        by_cases hjl : a + sz ≤ ds.length
        · have hkl2 : k < row.length := hkl.1 hjl
          have htk2 := ht.out k (by rw [← hlen.out]; exact hkl2)
          rw [hpl k, ← ha.out] at htk2
          have hbx := Below.trans bw (bx.mono hwz)
          have hS := (hv.below hbx).slice a (a + sz) (by omega) hjl
          rw [show a + sz - a = sz by omega] at hS
          have hrl : (rootL ((ds.drop a).take sz)).length = 32 := rootL_length ds.length _ (by rw [List.length_take, List.length_drop]; omega) (by omega) ((h32.drop a).take _)
          have hrt := rroot_any 1048576 _ ((ds.drop a).take sz) _ (by rw [List.length_take, List.length_drop]; omega) (Nat.le_refl _) hS
          generalize rootL ((ds.drop a).take sz) = dn at *
          replace htk2 : Hid _ := htk2
          replace hkl : Hid _ := hkl
          have k1 : (a : Int) + sz ≤ c := by omega
          have k2 : (a : Int) ≤ (a : Int) + sz := by omega
          have w0 : IntKind.i64.wrap ((a : Int) + sz) = (a : Int) + sz := by rw [IntKind.wrap_i64]; omega
          have k4 : ((a : Int) + sz).toNat = a + sz := by omega
          have hpre : Hid ((row.take k).length = k) := by unfold Hid; rw [List.length_take]; omega
          have hrl2 : row.length ≤ 1048576 := by rw [hlen.out]; exact Nat.le_trans (Nat.div_le_self _ _) hl
          generalize row.take k = pre at *
          clear hS hbx
          go_wp2_with fail
          (with_reducible refine hrt.mono ?_); rintro e w5 ⟨rfl, b5⟩
          have ho5 := hox.below b5
          have bw5 := Below.trans bx (b5.mono bx.size)
          have e5 := ext_alloc w5 (.cells (bs dn).toArray 25 (0, 0))
          have ho6 := ho5.below e5
          have s6 := slD_one w5 dn 25 hrl
          have bw6 := Below.trans bw5 (e5.mono bw5.size)
          have z6 := bw6.size
          clear hrt ho5 b5 e5 bw5 hox
          go_wp2_with (first | ((with_reducible refine at_bs ?_); refine wpl_bD rfl hrl _ rfl rfl ?_) | (at_builtin; go_loud (refine wpl_apD (B := W.heap.size) rfl _ _ rfl rfl ho6 rfl s6 (by rw [hpre.out]; simp; omega) z6 ?_)))
          intro v7 w7 h7 _ b7
          rw [← htk2.out] at h7
          go_wp2_with fail
          go_roundw
          case rel => exact ⟨k + 1, a + sz, by have := ha.out; unfold Hid; rw [Nat.succ_mul, ← this], hjl, by go_num, by omega, h7, Below.trans bw6 b7⟩
          case measure => simp [intOf]; omega
        · have hkn : k = row.length := by
            have : ¬ k < row.length := fun h => hjl (hkl.2 h)
            omega
          subst hkn
          rw [List.take_length] at hox
          obtain ⟨g, c3, rfl, hg1, hg2⟩ := hox.some hn
          have hol0 := hol.below bx
          have hrw0 := hrw.below bx
          have bw0 := Below.trans bw (bx.mono hwz)
          have e1 := ext_alloc wr (.cells #[Value.slice (some ⟨g, 0, none⟩) row.length c3] 22 (0, 0))
          have s1 := sl_one wr (.slice (some ⟨g, 0, none⟩) row.length c3) 22
          have hol1 := hol0.below e1
          have bw1 := Below.trans bw0 (e1.mono bw0.size)
          have hrw1 := hrw0.below e1
          have hrow1 := hox.below e1
          have z1 := bw1.size
          have hlt2 := hrw.lt
          clear hol0 bw0 hrw0 hox e1 hol hrw
          go_wp2_with (at_builtin; go_loud (refine wpl_apL (B := w.heap.size) rfl _ _ rfl rfl hol1 rfl s1 (by intro u hu; rw [List.mem_singleton.1 hu]; rfl) (by simp; omega) z1 ?_))
          intro v2 w2 hol2 g2 b2
          have hrow2 := hrow1.kept g2 (hol1.ne hrow1)
          have hrw2 := hrw1.kept g2 (fun u hu => by obtain ⟨es, ho, _⟩ := hrw1.each hu; exact hol1.ne ho)
          have bw2 := Below.trans bw1 b2
          have hrw3 := hrw2.snoc hwz hrow2 hn hlt2
          rw [← htk.out] at hrw3
          have w0 : IntKind.i64.wrap (2 * (sz : Int)) = 2 * (sz : Int) := by rw [IntKind.wrap_i64]; omega
          clear hol1 g2 b2 hrw1 hrow1 s1 bw1 hrw2
          go_wp2_with fail
          go_roundw
          case rel => exact ⟨i + 1, 2 * sz, _, by have := hsz.out; unfold Hid; rw [Nat.pow_succ, ← this]; omega, by omega, by omega, by omega, by go_num, hol2, hrw3, bw2⟩
          case measure => simp [intOf]; omega
    · have : ¬ i < lvl ds.length := fun h => hlt (hpos.1 h).2
      obtain rfl : i = lvl ds.length := by omega
      rw [lvls_all] at hrw
      go_wp2_with fail
      go_ret
      exact ⟨_, vs, rfl, hol, hrw, bw⟩
end Go.Proofs.Ytidgomppehhkgaa

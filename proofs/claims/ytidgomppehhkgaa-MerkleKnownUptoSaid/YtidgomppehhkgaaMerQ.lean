/- Leaves of the program and of the reference (walks). -/
import Derived.Test.YtidgomppehhkgaaMerP
set_option linter.unusedVariables false
set_option linter.unusedSimpArgs false
namespace Go.Proofs.Ytidgomppehhkgaa
open Go.RowKit
attribute [local go_sem high] dg_cells guard_dg rs_l rs_lh rs_lhm rs_h rs_hm rs_all

theorem sum_len (zs : List (List UInt8)) : zs.length ≤ (zs.map fun z => z.length + 1).sum ∧ ∀ z ∈ zs, z.length + 1 ≤ (zs.map fun z => z.length + 1).sum := by
  induction zs with
  | nil => exact ⟨by simp, fun z h => by cases h⟩
  | cons a r ih =>
    simp only [List.map_cons, List.sum_cons, List.length_cons, List.mem_cons]
    refine ⟨by omega, fun z hz => ?_⟩
    rcases hz with rfl | hz
    · omega
    · have := ih.2 z hz; omega
/-- A slice of these texts. -/
def SlX (w : World) (v : Value) (zs : List (List UInt8)) : Prop := ∃ vs : List Value, Sl w v zs.length vs ∧ vs.length = zs.length ∧ ∀ (i : Nat) u x, vs[i]? = some u → zs[i]? = some x → SlB w u x
theorem SlX.below {w w' : World} {v : Value} {zs : List (List UInt8)} (h : SlX w v zs) (hb : Below w.heap.size w w') : SlX w' v zs := by
  obtain ⟨vs, h1, h2, h3⟩ := h
  exact ⟨vs, h1.below hb, h2, fun i u x hu hx => (h3 i u x hu hx).below hb⟩
theorem SlX.get {w : World} {A : Option Addr} {n c : Nat} {zs : List (List UInt8)} (h : SlX w (.slice A n c) zs) {k : Nat} (hk : k < zs.length) : ∃ ad u, A = some ad ∧ w.cell? (ad.add k) = some u ∧ SlB w u (zs.getD k []) ∧ u.oneCell' = true := by
  obtain ⟨vs, ⟨A', c', e, _, _, _, hr⟩, h2, h3⟩ := h
  injection e with e1 e2 e3
  subst e1
  have hk2 : k < vs.length := by omega
  obtain ⟨ad, e, hcell⟩ := hr k vs[k] (by simp [hk2])
  have hs := h3 k vs[k] (zs.getD k []) (by simp [hk2]) (by simp [hk])
  refine ⟨ad, vs[k], e, hcell, hs, ?_⟩
  obtain ⟨A2, c2, e2, _⟩ := hs
  rw [e2]; rfl
theorem SlX.len {w : World} {v : Value} {zs : List (List UInt8)} (h : SlX w v zs) : ∃ A c, v = .slice A zs.length c ∧ zs.length ≤ c ∧ c ≤ 9223372036854775807 := by
  obtain ⟨vs, ⟨A, c, e, h1, h2, _⟩, _⟩ := h
  exact ⟨A, c, e, h1, h2⟩
theorem take_snoc_map (zs : List (List UInt8)) (k : Nat) (h : k < zs.length) : (zs.take (k + 1)).map leafL = (zs.take k).map leafL ++ [leafL (zs.getD k [])] := by
  rw [List.take_succ_eq_append_getElem h, List.map_append]; simp [h]
set_option maxRecDepth 10000 in
set_option maxHeartbeats 4000000 in
theorem leaves_any (v : Value) (zs : List (List UInt8)) (w : World) (hv : SlX w v zs) (hl : zs.length ≤ 1048576) (hz : ∀ z ∈ zs, z.length ≤ 1073741824) :
    Calls Try.prog 21 #[v] w fun e w' => ∃ v', e = .returned v' ∧ OwD w.heap.size w' v' (zs.map leafL) ∧ Below w.heap.size w w' := by
  obtain ⟨A, c, rfl, hc, hcm⟩ := hv.len
  go_enter Try.func21, Try.ntmps21
  go_wp2_with fail
  go_loopw [3, 8] (fun o i wr => ∃ k : Nat, k ≤ zs.length ∧ i = .int .i64 k ∧ OwD w.heap.size wr o ((zs.take k).map leafL) ∧ Below w.heap.size w wr) (fun _ i _ => zs.length - (intOf i).toNat)
  case atStart => exact ⟨0, by omega, rfl, OwD.nil _ _, Below.refl _ _⟩
  case round =>
    obtain ⟨k, hk, rfl, ho, bw⟩ := hrel
    by_cases hlt : k < zs.length
    · obtain ⟨ad, u, rfl, hcell, hu, hone⟩ := (hv.below bw).get hlt
      have htk := take_snoc_map zs k hlt
      have hzl := hz (zs.getD k []) (by simp [hlt])
      have hll := leafL_length (zs.getD k [])
      have hlk : ((zs.take k).map leafL).length = k := by simp; omega
      generalize hpre : (zs.take k).map leafL = pre at *
      generalize zs.getD k [] = z at *
      have hlf := fun w' (h : Below wr.heap.size wr w') => leaf_any u z w' (hu.below h) hzl
      generalize leafL z = dz at *
      replace htk : Hid _ := htk
      replace hpre : Hid _ := hpre
      replace hlk : Hid _ := hlk
      clear hu
      go_wp2_with fail
      (with_reducible refine (hlf _ (Below.refl _ _)).mono ?_); rintro e w5 ⟨rfl, b5⟩
      have ho5 := ho.below b5
      have bw5 := Below.trans bw (b5.mono bw.size)
      have e5 := ext_alloc w5 (.cells (bs dz).toArray 25 (0, 0))
      have ho6 := ho5.below e5
      have s6 := slD_one w5 dz 25 hll
      have bw6 := Below.trans bw5 (e5.mono bw5.size)
      have z6 := bw6.size
      clear hlf ho ho5 b5 e5 bw5 hcell
      go_wp2_with (first | ((with_reducible refine at_bs ?_); refine wpl_bD rfl hll _ rfl rfl ?_) | (at_builtin; go_loud (refine wpl_apD (B := w.heap.size) rfl _ _ rfl rfl ho6 rfl s6 (by rw [hlk.out]; simp; omega) z6 ?_)))
      intro v7 w7 h7 _ b7
      go_wp2_with fail
      go_roundw
      case rel => exact ⟨k + 1, by omega, by go_num, by rw [htk.out]; exact h7, Below.trans bw6 b7⟩
      case measure => simp [intOf]; omega
    · obtain rfl : k = zs.length := by omega
      rw [List.take_length] at ho
      go_wp2_with fail
      go_ret
      exact ⟨_, rfl, ho, bw⟩
set_option maxRecDepth 10000 in
set_option maxHeartbeats 4000000 in
theorem rleaves_any (v : Value) (zs : List (List UInt8)) (w : World) (hv : SlX w v zs) (hl : zs.length ≤ 1048576) (hz : ∀ z ∈ zs, z.length ≤ 1073741824) :
    Calls Try.prog 22 #[v] w fun e w' => ∃ v', e = .returned v' ∧ OwD w.heap.size w' v' (zs.map leafL) ∧ Below w.heap.size w w' := by
  obtain ⟨A, c, rfl, hc, hcm⟩ := hv.len
  go_enter Try.func22, Try.ntmps22
  go_wp2_with fail
  go_loopw [3, 4] (fun o i wr => ∃ k : Nat, k ≤ zs.length ∧ i = .int .i64 k ∧ OwD w.heap.size wr o ((zs.take k).map leafL) ∧ Below w.heap.size w wr) (fun _ i _ => zs.length - (intOf i).toNat)
  case atStart => exact ⟨0, by omega, rfl, OwD.nil _ _, Below.refl _ _⟩
  case round =>
    obtain ⟨k, hk, rfl, ho, bw⟩ := hrel
    by_cases hlt : k < zs.length
    · obtain ⟨ad, u, rfl, hcell, hu, hone⟩ := (hv.below bw).get hlt
      have htk := take_snoc_map zs k hlt
      have hzl := hz (zs.getD k []) (by simp [hlt])
      have hll := leafL_length (zs.getD k [])
      have hlk : ((zs.take k).map leafL).length = k := by simp; omega
      generalize hpre : (zs.take k).map leafL = pre at *
      generalize zs.getD k [] = z at *
      have hlf := fun w' (h : Below wr.heap.size wr w') => rleaf_any u z w' (hu.below h) hzl
      generalize leafL z = dz at *
      replace htk : Hid _ := htk
      replace hpre : Hid _ := hpre
      replace hlk : Hid _ := hlk
      clear hu
      go_wp2_with fail
      (with_reducible refine (hlf _ (Below.refl _ _)).mono ?_); rintro e w5 ⟨rfl, b5⟩
      have ho5 := ho.below b5
      have bw5 := Below.trans bw (b5.mono bw.size)
      have e5 := ext_alloc w5 (.cells (bs dz).toArray 25 (0, 0))
      have ho6 := ho5.below e5
      have s6 := slD_one w5 dz 25 hll
      have bw6 := Below.trans bw5 (e5.mono bw5.size)
      have z6 := bw6.size
      clear hlf ho ho5 b5 e5 bw5 hcell
      go_wp2_with (first | ((with_reducible refine at_bs ?_); refine wpl_bD rfl hll _ rfl rfl ?_) | (at_builtin; go_loud (refine wpl_apD (B := w.heap.size) rfl _ _ rfl rfl ho6 rfl s6 (by rw [hlk.out]; simp; omega) z6 ?_)))
      intro v7 w7 h7 _ b7
      go_wp2_with fail
      go_roundw
      case rel => exact ⟨k + 1, by omega, by go_num, by rw [htk.out]; exact h7, Below.trans bw6 b7⟩
      case measure => simp [intOf]; omega
    · obtain rfl : k = zs.length := by omega
      rw [List.take_length] at ho
      go_wp2_with fail
      go_ret
      exact ⟨_, rfl, ho, bw⟩
end Go.Proofs.Ytidgomppehhkgaa

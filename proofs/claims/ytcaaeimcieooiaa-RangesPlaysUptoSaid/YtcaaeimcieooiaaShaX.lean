/- Write, Copy, Sum of a state (walks). -/
import Derived.Test.YtcaaeimcieooiaaShaB
import Derived.Test.YtcaaeimcieooiaaShaN
set_option linter.unusedVariables false
set_option linter.unusedSimpArgs false
namespace Go.Proofs.Ytcaaeimcieooiaa
open Go.RowKit

/-- The slice lies in another block. -/
def Apart (v : Value) (g : Nat) : Prop := ∀ ad n c, v = .slice (some ad) n c → ad.block ≠ g
theorem apart_lt {w : World} {v : Value} {xs : List UInt8} {g : Nat} (h : SlB w v xs) (hx : xs ≠ []) (hg : w.heap.size ≤ g) : Apart v g := by
  obtain ⟨A, c, rfl, h1, h2, h3, h4⟩ := h
  rintro ad n c' e
  injection e with e1 e2 e3
  subst e1
  cases xs with
  | nil => exact absurd rfl hx
  | cons x l =>
    obtain ⟨ad', e, hc⟩ := h4 0 _ rfl
    cases e
    have := World.block_lt_of_cell? w _ hc
    have hb : (ad.add 0).block = ad.block := by unfold Addr.add; split <;> rfl
    omega
theorem SlB.kept {w w' : World} {v : Value} {xs : List UInt8} {g : Nat} (h : SlB w v xs) (hg : w.grownBy w' (some g)) (ha : xs ≠ [] → Apart v g) : SlB w' v xs := by
  obtain ⟨A, c, rfl, h1, h2, h3, h4⟩ := h
  by_cases hx : xs = []
  · subst hx; exact ⟨A, c, rfl, h1, h2, h3, Rc.nil _ _⟩
  replace ha := ha hx
  exact ⟨A, c, rfl, h1, h2, h3, h4.grown hg (fun ad e => by subst e; simpa using ha ad _ _ rfl)⟩
def StA (w : World) (g : Nat) (s : S8) (rest : List UInt8) (n : Nat) : Prop := w.heap[g]? = some (.cells (stCells s rest n true).toArray 78 (0, 0))
theorem st_iff {w : World} {g : Nat} {xs : List UInt8} : St w g xs ↔ xs.length ≤ 4611686018427387904 ∧ ∃ s rest, StR xs s rest ∧ StA w g s rest xs.length := by
  constructor
  · rintro ⟨h1, rest, h2, h3, h4⟩; exact ⟨h1, _, rest, ⟨h2, h3, rfl⟩, h4⟩
  · rintro ⟨h1, s, rest, ⟨h2, h3, rfl⟩, h4⟩; exact ⟨h1, rest, h2, h3, h4⟩
theorem stCells_72 (s : S8) (rest : List UInt8) (n : Nat) (m : Bool) (h : rest.length = 64) : (stCells s rest n m)[72]? = some (.int .u64 n) := by
  simp [stCells, List.append_assoc, List.getElem?_append_right, u32s, S8.list, bs, h]
theorem stCells_73 (s : S8) (rest : List UInt8) (n : Nat) (m : Bool) (h : rest.length = 64) : (stCells s rest n m)[73]? = some (.bool m) := by
  simp [stCells, List.append_assoc, List.getElem?_append_right, u32s, S8.list, bs, h]
theorem stCells_rest (s : S8) (rest : List UInt8) (n : Nat) (m : Bool) (h : rest.length = 64) {j : Nat} (hj : j < 64) : (stCells s rest n m)[8 + j]? = some (.int .u8 (c8 (rest.getD j 0))) := by
  have e : 8 + j - 8 = j := by omega
  have hl : (u32s s.list).length = 8 := rfl
  rw [stCells, List.append_assoc, List.getElem?_append_right (by omega), hl, e, List.getElem?_append_left (by simp [bs, h, hj]), bs_get _ (by omega)]
theorem StA.cell {w : World} {g : Nat} {s : S8} {rest : List UInt8} {n : Nat} (h : StA w g s rest n) {j : Nat} {v : Value} (hj : (stCells s rest n true)[j]? = some v) : w.cell? ⟨g, j, none⟩ = some v ∧ w.frozen? ⟨g, j, none⟩ = false := by
  refine ⟨?_, frozen_of_row _ _ _ _ _ h⟩
  rw [cell_of_row _ _ _ _ _ _ h]; simpa using hj
theorem StA.n_set {w : World} {g : Nat} {s : S8} {rest : List UInt8} {n : Nat} (h : StA w g s rest n) (hr : rest.length = 64) (m : Nat) : StA (w.setCell ⟨g, 72, none⟩ (.int .u64 m)) g s rest m := by
  unfold StA at h ⊢
  rw [heap_setCell_same w g 72 _ _ _ h]
  have hl : (u32s s.list ++ bs rest).length = 72 := by simp [u32s, S8.list, bs, hr]
  simp only [stCells, List.setIfInBounds_toArray]
  rw [List.set_append_right _ _ (by omega), hl]
  rfl
theorem StA.rest_sl {w : World} {g : Nat} {s : S8} {rest : List UInt8} {n : Nat} (h : StA w g s rest n) (hr : rest.length = 64) : SlB w (.slice (some ⟨g, 8, none⟩) 64 64) rest := by
  refine ⟨_, _, by rw [hr], by omega, by omega, by simp, Rc.of_some fun j u hj => ?_⟩
  have hlt : j < 64 := by have := (List.getElem?_eq_some_iff.1 hj).1; simpa [bs, hr] using this
  rw [Addr.add_mid, (h.cell (stCells_rest s rest n true hr hlt)).1, ← hj, bs_get _ (by omega)]

theorem stCells_put (s : S8) (rest : List UInt8) (n : Nat) (m : Bool) (hr : rest.length = 64) (a : Nat) (new : List UInt8) (h : a + new.length ≤ 64) :
    (stCells s rest n m).take (8 + a) ++ bs new ++ (stCells s rest n m).drop (8 + a + new.length) = stCells s (put rest a new) n m := by
  have h8 : (u32s s.list).length = 8 := rfl
  have e1 : 8 + a - 8 = a := by omega
  have e2 : 8 + a + new.length - 8 = a + new.length := by omega
  have e3 : a - 64 = 0 := by omega
  have e4 : a + new.length - 64 = 0 := by omega
  unfold stCells put
  simp only [List.take_append, List.drop_append, List.length_append, h8, bs_append, bs_length, hr]
  rw [List.take_of_length_le (show (u32s s.list).length ≤ 8 + a by omega), List.drop_eq_nil_of_le (show (u32s s.list).length ≤ 8 + a + new.length by omega), e1, e2, bs_take, bs_drop, show 8 + a - (8 + 64) = 0 by omega, show 8 + a + new.length - (8 + 64) = 0 by omega]
  simp [List.append_assoc]
theorem copy_rest {w : World} {g : Nat} {s : S8} {rest : List UInt8} {n : Nat} (h : StA w g s rest n) (hr : rest.length = 64) (a q : Nat) {ad : Addr} {c : Nat} {us : List UInt8} (hu : RdB w (some ad) us) (hq : q = min us.length (64 - a)) (ha : a ≤ 64) :
    (Builtin.copy_ #[56, 56] 3 #[.slice (some ⟨g, 8 + a, none⟩) (64 - a) (64 - a), .slice (some ad) us.length c]).run Try.prog w = .ok (.int .i64 (q : Int)) (w.setRow g (stCells s (put rest a (us.take q)) n true).toArray) := by
  have hl : (us.take q).length = q := by rw [List.length_take]; omega
  have := run_copy_row (P := Try.prog) w 56 56 3 5 g (8 + a) (64 - a) (64 - a) ad us.length c (stCells s rest n true).toArray 78 (bs (us.take q))
    Try.underlying56 (by kernel_rfl) h (by rw [bs_length, hl, hq]) (by rw [← bs_take]; exact (hu.take q).some_) (by rw [bs_length, hl, List.size_toArray, stCells_length _ _ _ _ hr]; omega) (bs_one _)
  rw [this, bs_length, hl]
  have e := stCells_put s rest n true hr a (us.take q) (by omega)
  rw [hl] at e
  rw [← e]; rfl

theorem grown_setRow {w w' : World} {g : Nat} (h : w.grownBy w' (some g)) (cs : Array Value) : w.grownBy (w'.setRow g cs) (some g) :=
  ⟨h.os, h.tape, h.output, by simpa using h.size, fun i hi hne => (heap_setRow_other w' g i cs (by intro e; exact hne (by rw [e]))).trans (h.block i hi hne)⟩
attribute [local go_sem high] rs_l rs_lh rs_lhm rs_h rs_hm rs_all
set_option maxHeartbeats 1000000 in
theorem write_any (g : Nat) (xs ys : List UInt8) (v : Value) (w : World) (hs : St w g xs) (hv : SlB w v ys) (hap : ys ≠ [] → Apart v g) (hlen : xs.length + ys.length ≤ 4611686018427387904) :
    Calls Try.prog 31 #[.pointer (some ⟨g, 0, none⟩), v] w fun e w' => e = .returned (.tuple #[]) ∧ St w' g (xs ++ ys) ∧ w.grownBy w' (some g) := by
  obtain ⟨_, s, rest, hR, hA⟩ := st_iff.1 hs
  have h73 := (hA.cell (stCells_73 _ _ _ _ hR.1)).1
  go_enter Try.func31, Try.ntmps31
  go_wp2_with fail
  go_loopw [1] (fun sl wr => ∃ k : Nat, k ≤ ys.length ∧ SlB wr sl (ys.drop k) ∧ (k < ys.length → Apart sl g) ∧ St wr g (xs ++ ys.take k) ∧ w.grownBy wr (some g)) (fun sl _ => match sl with | .slice _ n _ => n | _ => 0)
  case atStart => exact ⟨0, by omega, hv, fun h => hap (by intro e; subst e; simp at h), by simpa using hs, World.grownBy.refl _ _⟩
  case round =>
    clear h73 hA hR hv hap hs
    obtain ⟨k, hk, hv, hap, hs, bw⟩ := hrel
    obtain ⟨_, s, rest, hR, hA⟩ := st_iff.1 hs
    have hv0 := hv
    obtain ⟨A, c, rfl, hc, hcm, hA0, hrr⟩ := hv
    have hl1 : (ys.drop k).length = ys.length - k := by simp
    have hl2 : (xs ++ ys.take k).length = xs.length + k := by simp; omega
    by_cases hlt : k < ys.length
    · replace hap := hap hlt
      obtain ⟨ad, rfl, _⟩ := RdB.cell hrr (i := 0) (by omega)
      have hzl : (xs ++ ys.take k).length ≤ 4611686018427387904 := by omega
      have hall : (xs ++ ys.take k) ++ ys.drop k = xs ++ ys := by rw [List.append_assoc, List.take_append_drop]
      have hadd : (xs ++ ys.take k).length + (ys.drop k).length ≤ 4611686018427387904 := by omega
      have hpart : ∀ n, (xs ++ ys.take k) ++ (ys.drop k).take n = xs ++ ys.take (k + n) := fun n => by rw [List.append_assoc, ← List.take_add]
      have hdrop : ∀ n, (ys.drop k).drop n = ys.drop (k + n) := fun n => by rw [List.drop_drop]
      have hm : 0 < (ys.drop k).length := by omega
      generalize hzs : xs ++ ys.take k = zs at hs hR hA hzl hall hadd hpart
      generalize hus : ys.drop k = us at hv0 hrr hc hap hadd hall hpart hdrop hm ⊢
      have hl3 : Hid (us.length = ys.length - k) := by unfold Hid; rw [← hus]; simp
      clear hl1 hl2
      have h72 := hA.cell (stCells_72 s rest zs.length true hR.1)
      obtain ⟨a, ha⟩ : ∃ a, a = zs.length % 64 := ⟨_, rfl⟩
      have ham : (zs.length : Int) % 64 = (a : Int) := by omega
      have ha0 : (0 : Int) ≤ (a : Int) := by omega
      have ha1 : (a : Int) ≤ 64 := by omega
      have ha2 : ¬ 64 = a := by omega
      replace ha : Hid (a = zs.length % 64) := ha
      obtain ⟨q, hq⟩ : ∃ q, q = min us.length (64 - a) := ⟨_, rfl⟩
      have kc := copy_rest hA hR.1 a q (c := c) hrr hq (by omega)
      have hq1 : (0 : Int) < (q : Int) := by have := ha.out; omega
      have hq2 : (q : Int) ≤ us.length := by omega
      have hq3 : (a : Int) + q ≤ 64 := by omega
      have hlq : (us.take q).length = q := by rw [List.length_take]; omega
      replace hq : Hid (q = min us.length (64 - a)) := hq
      have e1 : IntKind.u64.wrap (q : Int) = q := by rw [IntKind.wrap_u64]; omega
      have e2 : IntKind.u64.wrap ((zs.length : Int) + q) = zs.length + q := by rw [IntKind.wrap_u64]; omega
      have e3 : IntKind.i64.wrap ((a : Int) + q) = a + q := by rw [IntKind.wrap_i64]; omega
      have hA2 : StA (wr.setRow g (stCells s (put rest a (us.take q)) zs.length true).toArray) g s (put rest a (us.take q)) zs.length := setRow_heap wr g _ _ _ _ hA
      have hrl : (put rest a (us.take q)).length = 64 := put_length hR.1 (by omega)
      have hA3 := hA2.n_set hrl (zs.length + q)
      have h72' := hA2.cell (stCells_72 _ _ _ _ hrl)
      have bw2 : w.grownBy _ (some g) := grown_setCell (k := 72) (grown_setRow bw (stCells s (put rest a (us.take q)) zs.length true).toArray) (.int .u64 ((zs.length + q : Nat) : Int))
      have hsl := slB_slice hv0 q us.length (by omega) (Nat.le_refl _)
      rw [List.take_of_length_le (by simp)] at hsl
      have hcast : ((zs.length + q : Nat) : Int) = (zs.length : Int) + q := by omega
      rw [hcast] at hA3 bw2
      have hlt2 : wr.grownBy _ (some g) := grown_setCell (k := 72) (grown_setRow (World.grownBy.refl _ _) (stCells s (put rest a (us.take q)) zs.length true).toArray) (.int .u64 ((zs.length : Int) + q))
      have hap2 : Apart (.slice (slA (some ad) q c 1) (us.length - q) (c - q)) g := by
        rintro ad' n' c' e
        injection e with e1 _ _
        have hb := hap ad _ _ rfl
        unfold slA at e1
        split at e1
        · cases e1; exact hb
        · cases e1
          have : (ad.add (q * 1)).block = ad.block := by unfold Addr.add; split <;> rfl
          rw [this]; exact hb
      have hsl2 := hsl.kept hlt2 (fun _ => hap2)
      have hfit : xs.length + (k + q) = zs.length + q := by rw [← hzs]; simp; omega
      have hkq : k + q ≤ ys.length := by have := hl3.out; omega
      have hstl : (zs ++ us.take q).length = zs.length + q := by simp; omega
      rw [hdrop] at hsl2
      by_cases h64 : a + q = 64
      · have e4 : ((a : Int) + q == 64) = true := by rw [beq_iff_eq]; omega
        have hR2 := hR.full (new := us.take q) (by have := ha.out; rw [hlq]; omega)
        rw [← ha.out] at hR2
        go_wp2_with fail
        refine (block_any g s (put rest a (us.take q)) (zs.length + q) _ (put rest a (us.take q)) hrl _ (hA3.rest_sl hrl) hA3).mono ?_
        rintro e w3 ⟨rfl, hg3, bw3⟩
        have hs3 : St w3 g (xs ++ ys.take (k + q)) := by
          rw [← hpart]
          exact st_iff.2 ⟨by rw [hstl]; omega, _, _, hR2, by rw [hstl]; exact hg3⟩
        have hsl3 := hsl2.kept bw3 (fun _ => hap2)
        have bw4 := bw2.trans bw3
        go_wp2_with fail
        go_roundw
        case rel => exact ⟨k + q, hkq, hsl3, fun _ => hap2, hs3, bw4⟩
        case measure =>
          show us.length - q < us.length
          omega
      · have e4 : ((a : Int) + q == 64) = false := by rw [beq_eq_false_iff_ne]; omega
        have hR2 := hR.less (new := us.take q) (by have := ha.out; rw [hlq]; omega)
        rw [← ha.out] at hR2
        have hs3' : ∀ w', StA w' g s (put rest a (us.take q)) (zs.length + q) → St w' g (xs ++ ys.take (k + q)) := fun w' h => by
          rw [← hpart]
          exact st_iff.2 ⟨by rw [hstl]; omega, _, _, hR2, by rw [hstl]; exact h⟩
        have hs3 := hs3' _ hA3
        go_wp2_with fail
        refine ⟨⟨k + q, hkq, hsl2, fun _ => hap2, hs3, bw2⟩, ?_⟩
        show us.length - q < us.length
        omega
    · go_wp2_with fail
      obtain rfl : k = ys.length := by omega
      refine ⟨rfl, .tuple #[], results_none rfl _ _ _, rfl, ?_, bw⟩
      rwa [List.take_length] at hs
end Go.Proofs.Ytcaaeimcieooiaa

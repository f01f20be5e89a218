/- What the functions of package crc compute (walks). -/
import Derived.Test.YtmlndnfehcafgaaBa
import Derived.Test.YtmlndnfehcafgaaCrcM
import Derived.Test.YtmlndnfehcafgaaRe
set_option linter.unusedVariables false
set_option linter.unusedSimpArgs false
namespace Go.Proofs.Ytmlndnfehcafgaa
open Go.RowKit

attribute [local go_sem high] i32_xor i32_and i32_or i32_not i32_add i32_sub0 wrap_8_32 wrap_32_8 i32_shr1 i32_shr8 i32_shr16 i32_shr24

theorem and1 (x : UInt32) : Op.intBits .and .u32 (c32 x) 1 = pure (.int .u32 (c32 (x &&& 1))) := i32_and x 1
theorem andPoly (x : UInt32) : Op.intBits .and .u32 3988292384 (c32 x) = pure (.int .u32 (c32 (3988292384 &&& x))) := i32_and 3988292384 x
attribute [local go_sem high] and1 andPoly

set_option maxHeartbeats 400000 in
theorem more_any (s : UInt32) (A : Option Addr) (c : Nat) (xs : List UInt8) (w : World) (hn : xs.length ≤ 9223372036854775807) (hr : RdB w A xs) :
    Calls Try.prog 11 #[.int .u32 (c32 s), .slice A xs.length c] w fun e w' => e = .returned (.int .u32 (c32 (crcMore s xs))) ∧ w = w' := by
  go_enter Try.func11, Try.ntmps11
  go_wp2
  go_loop [5, 12] (fun n i => ∃ k : Nat, k ≤ xs.length ∧ i = .int .i64 k ∧ n = .int .u32 (c32 ((xs.take k).foldl crcByte (~~~s)))) (fun _ i => xs.length - (intOf i).toNat)
  case atStart => exact ⟨0, by omega, rfl, rfl⟩
  case round =>
    obtain ⟨k, hk, rfl, rfl⟩ := hrel
    by_cases hlt : k < xs.length
    · obtain ⟨ad, rfl, hc⟩ := hr.cell hlt
      have hs : Hid ((xs.take (k + 1)).foldl crcByte (~~~s) = crcBits 8 ((xs.take k).foldl crcByte (~~~s) ^^^ xs[k].toUInt32)) := by
        unfold Hid; rw [List.take_succ_eq_append_getElem hlt, List.foldl_append]; rfl
      go_wp2
      go_loop [5, 20] (fun n i => ∃ j : Nat, j ≤ 8 ∧ i = .int .i64 j ∧ n = .int .u32 (c32 (crcBits j ((xs.take k).foldl crcByte (~~~s) ^^^ xs[k].toUInt32)))) (fun _ i => 8 - (intOf i).toNat)
      case atStart => exact ⟨0, by omega, rfl, rfl⟩
      case round =>
        obtain ⟨j, hj, rfl, rfl⟩ := hrel
        by_cases hlj : j < 8
        · go_wp2
          go_round
          case rel => exact ⟨j + 1, by omega, by go_num, by rw [crcBits_succ]; rfl⟩
          case measure => simp [intOf]; omega
        · go_wp2
          go_round
          case rel => exact ⟨k + 1, by omega, by go_num, by rw [hs.out, show j = 8 by omega]⟩
          case measure => simp [intOf]; omega
    · go_wp2
      go_ret
      refine ⟨?_, rfl⟩
      rw [List.take_of_length_le (by omega)]; rfl

set_option maxHeartbeats 400000 in
theorem sum_any (A : Option Addr) (c : Nat) (xs : List UInt8) (w : World) (hn : xs.length ≤ 9223372036854775807) (hr : RdB w A xs) :
    Calls Try.prog 9 #[.slice A xs.length c] w fun e w' => e = .returned (.int .u32 (c32 (crcMore 0 xs))) ∧ w = w' := by
  go_enter Try.func9, Try.ntmps9
  go_wp2_with (go_at_call 11; refine (more_any 0 _ _ _ _ hn hr).mono ?_; rintro e w' ⟨rfl, rfl⟩)
  go_ret
  exact ⟨rfl, rfl⟩


def be32 (n : UInt32) : List UInt8 := [(n >>> 24).toUInt8, (n >>> 16).toUInt8, (n >>> 8).toUInt8, n.toUInt8]
def crcPut (xs : List UInt8) : List UInt8 := xs ++ be32 (crcMore 0 xs)
theorem crcPut_length (xs : List UInt8) : (crcPut xs).length = xs.length + 4 := by simp [crcPut, be32]

set_option maxHeartbeats 400000 in
theorem put_any (v : Value) (xs : List UInt8) (w : World) (hn : xs.length ≤ 1099511627776) (hr : SlB w v xs) :
    Calls Try.prog 13 #[v] w fun e w' => ∃ v', e = .returned v' ∧ OwB w.heap.size w' v' (crcPut xs) ∧ Below w.heap.size w w' := by
  obtain ⟨A, c, rfl, hc, _, hA, hr⟩ := hr
  cases A with
  | some A =>
    go_enter Try.func13, Try.ntmps13
    go_wp2_with (first | (go_at_call 9; refine (sum_any _ _ _ _ (by omega) hr).mono ?_; rintro e w' ⟨rfl, rfl⟩) | (at_builtin; go_loud (refine wpl_ap_grow (size := 1) (bytes := 1) _ rfl _ _ 22 rfl Try.underlying22 info8 rfl (by decide) (bs xs) rfl (by simp) (by omega) (by simp [bs]) (hr.alloc _) (bs (be32 (crcMore 0 xs))) rfl rfl (rc_new _ _ _) (bs_one _) (by omega) (by omega) (by omega) ?_)))
    intro v' w' ho hg
    go_wp2
    go_ret
    refine ⟨_, rfl, ?_, ?_⟩
    · rw [← bs_append] at ho
      exact own_weaken (by rw [crcPut_length]; exact ho) (by omega)
    · exact below_grown ((Below.refl _ _).alloc (by omega) _) hg (by simp)
  | none =>
    obtain rfl := hA rfl
    have h0 : xs = [] := List.eq_nil_of_length_eq_zero (by omega)
    subst h0
    go_enter Try.func13, Try.ntmps13
    go_wp2_with (first | (go_at_call 9; refine (sum_any _ _ [] _ (by simp) hr).mono ?_; rintro e w' ⟨rfl, rfl⟩) | (at_builtin; go_loud (refine wpl_ap_grow (size := 1) (bytes := 1) _ rfl _ _ 22 rfl Try.underlying22 info8 rfl (by decide) [] rfl (by simp) (by omega) (by simp [bs]) (Rc.nil _ _) (bs (be32 (crcMore 0 []))) rfl rfl (rc_new _ _ _) (bs_one _) (by omega) (by omega) (by omega) ?_)))
    intro v' w' ho hg
    go_wp2
    go_ret
    refine ⟨_, rfl, ?_, ?_⟩
    · exact own_weaken (by rw [crcPut_length]; exact ho) (by omega)
    · exact below_grown ((Below.refl _ _).alloc (by omega) _) hg (by simp)
theorem slB_take {w : World} {A : Option Addr} {c : Nat} {xs : List UInt8} (h : SlB w (.slice A xs.length c) xs) (k : Nat) (hk : k ≤ xs.length) : SlB w (.slice A k c) (xs.take k) := by
  obtain ⟨A', c', e, hc, hm, hA, hr⟩ := h
  injection e with e1 e2 e3
  subst e1; subst e3
  refine ⟨A, c, ?_, ?_, hm, hA, ?_⟩
  · rw [List.length_take, Nat.min_eq_left hk]
  · rw [List.length_take]; omega
  · rw [← bs_take]; exact hr.take _

set_option maxHeartbeats 1000000 in
theorem take_some (v : Value) (xs : List UInt8) (w : World) (hn : xs.length ≤ 1099511627776) (hr : SlB w v (crcPut xs)) :
    Calls Try.prog 14 #[v] w fun e w' => ∃ v', e = .returned (.tuple #[v', .bool true]) ∧ OwB w.heap.size w' v' xs ∧ Below w.heap.size w w' := by
  have kc : ∀ w', Below w.heap.size w w' → (convert 22 9 v).run Try.prog w' = .ok (.string (str (crcPut xs))) w' := fun w' hb => conv_sl Try.underlying22 Try.underlying5 Try.underlying9 (hr.below hb)
  have hlen : (crcPut xs).length = xs.length + 4 := crcPut_length xs
  obtain ⟨A, c, rfl, hc, hcm, hA, hrr⟩ := hr
  have hs1 : SlB w (.slice A xs.length c) xs := by
    have := slB_take (w := w) (A := A) (c := c) (xs := crcPut xs) ⟨A, c, rfl, hc, hcm, hA, hrr⟩ xs.length (by omega)
    rwa [show (crcPut xs).take xs.length = xs by simp [crcPut]] at this
  have hrr' : ∀ w', Below w.heap.size w w' → Rc w' A (bs xs) := fun w' hb => by
    have := (hrr.below' hb).take xs.length
    rwa [bs_take, show (crcPut xs).take xs.length = xs by simp [crcPut]] at this
  rw [hlen] at kc hc ⊢
  clear hlen
  have e1 : ((xs.length : Int) + 4 - 4).toNat = xs.length := by omega
  have hd : decide ((xs.length : Int) < 0) = false := by simp
  have b1 : 0 ≤ (xs.length : Int) := by omega
  have b2 : (xs.length : Int) ≤ c := by omega
  have b3 : xs.length ≤ c := by omega
  have hcur : Below w.heap.size w w := Below.refl _ _
  go_enter Try.func14, Try.ntmps14
  go_wp2
  refine wp_region_E (by kernel_rfl) ?_
  replace hcur := below_via hcur (ext_drew _)
  refine wpAnyE_take (i := 0) (v := ?_) (some 8) rfl rfl (by kernel_rfl) (by kernel_rfl) (by kernel_rfl) (fun _ _ _ h => h) ?_ ?_
  rotate_left 1
  · (refine Or.inl ⟨by rfl, ?_⟩; intro w' hw'; have hq := below_via hcur hw'; (try go_simp); (try rfl); done)
  try simp only [Act.put, List.setIfInBounds_toArray, List.set_cons_zero, List.set_cons_succ]
  refine wpAnyE_take (i := 1) (v := ?_) (some 9) rfl rfl (by kernel_rfl) (by kernel_rfl) (by kernel_rfl) (fun _ _ _ h => h) ?_ ?_
  rotate_left 1
  · (refine Or.inl ⟨by rfl, ?_⟩; intro w' hw'; have hq := below_via hcur hw'; (try go_simp); (try rfl); done)
  try simp only [Act.put, List.setIfInBounds_toArray, List.set_cons_zero, List.set_cons_succ]
  refine wpAnyE_take (i := 2) (v := ?_) (some 10) rfl rfl (by kernel_rfl) (by kernel_rfl) (by kernel_rfl) (fun _ _ _ h => h) ?_ ?_
  rotate_left 1
  · (refine Or.inl ⟨by rfl, ?_⟩; intro w' hw'; have hq := below_via hcur hw'; (try go_simp); (try rfl); done)
  try simp only [Act.put, List.setIfInBounds_toArray, List.set_cons_zero, List.set_cons_succ]
  refine wpAnyE_take (i := 3) (v := ?_) (some 11) rfl rfl (by kernel_rfl) (by kernel_rfl) (by kernel_rfl) (fun _ _ _ h => h) ?_ ?_
  rotate_left 1
  · (refine Or.inl ⟨by rfl, ?_⟩; intro w' hw'; have hq := below_via hcur hw'; (try go_simp); (try rfl); done)
  try simp only [Act.put, List.setIfInBounds_toArray, List.set_cons_zero, List.set_cons_succ]
  refine wpAnyE_take (i := 4) (v := ?_) (some 12) rfl rfl (by kernel_rfl) (by kernel_rfl) (by kernel_rfl) (fun _ _ _ h => h) ?_ ?_
  rotate_left 1
  · (refine Or.inl ⟨by rfl, ?_⟩; intro w' hw'; have hq := below_via hcur hw'; (try go_simp); (try rfl); done)
  try simp only [Act.put, List.setIfInBounds_toArray, List.set_cons_zero, List.set_cons_succ]
  refine wpAnyE_take (i := 5) (v := ?_) (some 13) rfl rfl (by kernel_rfl) (by kernel_rfl) (by kernel_rfl) (fun _ _ _ h => h) ?_ ?_
  rotate_left 1
  · (refine Or.inl ⟨by rfl, ?_⟩; intro w' hw'; have hq := below_via hcur hw'; (try go_simp); (try rfl); done)
  try simp only [Act.put, List.setIfInBounds_toArray, List.set_cons_zero, List.set_cons_succ]
  refine wpAnyE_take (i := 8) (v := ?_) (some 16) rfl rfl (by kernel_rfl) (by kernel_rfl) (by kernel_rfl) (fun _ _ _ h => h) ?_ ?_
  rotate_left 1
  · (refine Or.inl ⟨by rfl, ?_⟩; intro w' hw'; have hq := below_via hcur hw'; (try go_simp); (try rfl); done)
  try simp only [Act.put, List.setIfInBounds_toArray, List.set_cons_zero, List.set_cons_succ]
  refine wpAnyE_take (i := 9) (v := ?_) (some 17) rfl rfl (by kernel_rfl) (by kernel_rfl) (by kernel_rfl) (fun _ _ _ h => h) ?_ ?_
  rotate_left 1
  · (refine Or.inl ⟨by rfl, ?_⟩; intro w' hw'; have hq := below_via hcur hw'; (try go_simp); (try rfl); done)
  try simp only [Act.put, List.setIfInBounds_toArray, List.set_cons_zero, List.set_cons_succ]
  refine wpAnyE_one (i := 6) rfl (by kernel_rfl) (by rfl) (fun K hK => ?_)
  go_simp
  (with_reducible refine (put_any _ _ _ hn (hs1.below hcur)).mono ?_); rintro e w1 ⟨v1, rfl, ho, hb⟩
  refine hK.out _ _ hb ?_
  replace hcur := below_via hcur hb; clear hK K
  try simp only [Act.put, List.setIfInBounds_toArray, List.set_cons_zero, List.set_cons_succ]
  have kd : ∀ w', Ext w1 w' → _ := fun w' hw' => conv_sl (P := Try.prog) (src := 22) (dst := 9) Try.underlying22 Try.underlying5 Try.underlying9 (ho.sl.below hw')
  refine wpAnyE_take (i := 7) (v := ?_) (some 15) rfl rfl (by kernel_rfl) (by kernel_rfl) (by kernel_rfl) (fun _ _ _ h => h) ?_ ?_
  rotate_left 1
  · (refine Or.inl ⟨by rfl, ?_⟩; intro w' hw'; have hq := below_via hcur hw'; (try go_simp); (try rfl); done)
  try simp only [Act.put, List.setIfInBounds_toArray, List.set_cons_zero, List.set_cons_succ]
  refine wpAnyE_take (i := 10) (v := ?_) (some 18) rfl rfl (by kernel_rfl) (by kernel_rfl) (by kernel_rfl) (fun _ _ _ h => h) ?_ ?_
  rotate_left 1
  · (refine Or.inl ⟨by rfl, ?_⟩; intro w' hw'; have hq := below_via hcur hw'; (try go_simp); (try rfl); done)
  try simp only [Act.put, List.setIfInBounds_toArray, List.set_cons_zero, List.set_cons_succ]
  refine wpAnyE_take (i := 11) (v := ?_) (some 19) rfl rfl (by kernel_rfl) (by kernel_rfl) (by kernel_rfl) (fun _ _ _ h => h) ?_ ?_
  rotate_left 1
  · (refine Or.inl ⟨by rfl, ?_⟩; intro w' hw'; have hq := below_via hcur hw'; (try go_simp); (try rfl); done)
  try simp only [Act.put, List.setIfInBounds_toArray, List.set_cons_zero, List.set_cons_succ]
  refine wpAnyE_done (by kernel_rfl) ?_ _
  go_wp2_with (at_builtin; go_loud (refine wpl_ap_own (size := 1) (bytes := 1) (base := w.heap.size) _ rfl _ _ 22 rfl Try.underlying22 info8 rfl (by decide) rfl (World.ownsRow_lit (base := w.heap.size) (e := 5) (size := 1) w1 #[] 0 hcur.size (by decide) rfl) (bs xs) rfl hA b3 (by simp [bs]) ((hrr' _ hcur).alloc _) (bs_one _) (by omega) (by omega) (by have := hcur.size; simp; omega) ?_))
  intro v' w' ho hg
  go_wp2
  go_ret2
  refine ⟨_, rfl, ?_, ?_⟩
  · simpa [OwB] using ho
  · exact Below.grown (hcur.alloc hcur.size _) hg (by have := hcur.size; simp; omega) (by intro k hk; simp [Value.ownBlock] at hk; have := hcur.size; omega)

set_option maxHeartbeats 1000000 in
theorem take_short (v : Value) (xs : List UInt8) (w : World) (hn : xs.length < 4) (hr : SlB w v xs) :
    Calls Try.prog 14 #[v] w fun e w' => e = .returned (.tuple #[.slice none 0 0, .bool false]) ∧ Below w.heap.size w w' := by
  obtain ⟨A, c, rfl, hc, hcm, hA, hrr⟩ := hr
  have hd : decide ((xs.length : Int) - 4 < 0) = true := by simp; omega
  have hcur : Below w.heap.size w w := Below.refl _ _
  go_enter Try.func14, Try.ntmps14
  go_wp2
  refine wp_region_E (by kernel_rfl) ?_
  replace hcur := below_via hcur (ext_drew _)
  refine wpAnyE_take (i := 0) (v := ?_) (some 8) rfl rfl (by kernel_rfl) (by kernel_rfl) (by kernel_rfl) (fun _ _ _ h => h) ?_ ?_
  rotate_left 1
  · (refine Or.inl ⟨by rfl, ?_⟩; intro w' hw'; have hq := below_via hcur hw'; (try go_simp); (try rfl); done)
  try simp only [Act.put, List.setIfInBounds_toArray, List.set_cons_zero, List.set_cons_succ]
  refine wpAnyE_take (i := 1) (v := ?_) (some 9) rfl rfl (by kernel_rfl) (by kernel_rfl) (by kernel_rfl) (fun _ _ _ h => h) ?_ ?_
  rotate_left 1
  · (refine Or.inl ⟨by rfl, ?_⟩; intro w' hw'; have hq := below_via hcur hw'; (try go_simp); (try rfl); done)
  try simp only [Act.put, List.setIfInBounds_toArray, List.set_cons_zero, List.set_cons_succ]
  refine wpAnyE_take (i := 2) (v := ?_) (some 10) rfl rfl (by kernel_rfl) (by kernel_rfl) (by kernel_rfl) (fun _ _ _ h => h) ?_ ?_
  rotate_left 1
  · (refine Or.inl ⟨by rfl, ?_⟩; intro w' hw'; have hq := below_via hcur hw'; (try go_simp); (try rfl); done)
  try simp only [Act.put, List.setIfInBounds_toArray, List.set_cons_zero, List.set_cons_succ]
  refine wpAnyE_take (i := 3) (v := undef) (some 11) rfl rfl (by kernel_rfl) (by kernel_rfl) (by kernel_rfl) (fun _ _ _ h => h) (Or.inr ⟨by rfl, rfl⟩) ?_
  try simp only [Act.put, List.setIfInBounds_toArray, List.set_cons_zero, List.set_cons_succ]
  refine wpAnyE_take (i := 4) (v := undef) (some 12) rfl rfl (by kernel_rfl) (by kernel_rfl) (by kernel_rfl) (fun _ _ _ h => h) (Or.inr ⟨by rfl, rfl⟩) ?_
  try simp only [Act.put, List.setIfInBounds_toArray, List.set_cons_zero, List.set_cons_succ]
  refine wpAnyE_take (i := 5) (v := undef) (some 13) rfl rfl (by kernel_rfl) (by kernel_rfl) (by kernel_rfl) (fun _ _ _ h => h) (Or.inr ⟨by rfl, rfl⟩) ?_
  try simp only [Act.put, List.setIfInBounds_toArray, List.set_cons_zero, List.set_cons_succ]
  refine wpAnyE_take (i := 6) (v := undef) (some 14) rfl rfl (by kernel_rfl) (by kernel_rfl) (by kernel_rfl) (fun _ _ _ h => h) (Or.inr ⟨by rfl, rfl⟩) ?_
  try simp only [Act.put, List.setIfInBounds_toArray, List.set_cons_zero, List.set_cons_succ]
  refine wpAnyE_take (i := 7) (v := undef) (some 15) rfl rfl (by kernel_rfl) (by kernel_rfl) (by kernel_rfl) (fun _ _ _ h => h) (Or.inr ⟨by rfl, rfl⟩) ?_
  try simp only [Act.put, List.setIfInBounds_toArray, List.set_cons_zero, List.set_cons_succ]
  refine wpAnyE_take (i := 8) (v := undef) (some 16) rfl rfl (by kernel_rfl) (by kernel_rfl) (by kernel_rfl) (fun _ _ _ h => h) (Or.inr ⟨by rfl, rfl⟩) ?_
  try simp only [Act.put, List.setIfInBounds_toArray, List.set_cons_zero, List.set_cons_succ]
  refine wpAnyE_take (i := 9) (v := undef) (some 17) rfl rfl (by kernel_rfl) (by kernel_rfl) (by kernel_rfl) (fun _ _ _ h => h) (Or.inr ⟨by rfl, rfl⟩) ?_
  try simp only [Act.put, List.setIfInBounds_toArray, List.set_cons_zero, List.set_cons_succ]
  refine wpAnyE_take (i := 10) (v := undef) (some 18) rfl rfl (by kernel_rfl) (by kernel_rfl) (by kernel_rfl) (fun _ _ _ h => h) (Or.inr ⟨by rfl, rfl⟩) ?_
  try simp only [Act.put, List.setIfInBounds_toArray, List.set_cons_zero, List.set_cons_succ]
  refine wpAnyE_take (i := 11) (v := ?_) (some 19) rfl rfl (by kernel_rfl) (by kernel_rfl) (by kernel_rfl) (fun _ _ _ h => h) ?_ ?_
  rotate_left 1
  · (refine Or.inl ⟨by rfl, ?_⟩; intro w' hw'; have hq := below_via hcur hw'; (try go_simp); (try rfl); done)
  try simp only [Act.put, List.setIfInBounds_toArray, List.set_cons_zero, List.set_cons_succ]
  refine wpAnyE_done (by kernel_rfl) ?_ _
  go_wp2
  go_ret2
  exact ⟨rfl, hcur⟩

set_option maxHeartbeats 1000000 in
theorem take_other (v : Value) (xs : List UInt8) (w : World) (hn : xs.length ≤ 1099511627776) (h4 : 4 ≤ xs.length) (hne : crcPut (xs.take (xs.length - 4)) ≠ xs) (hr : SlB w v xs) :
    Calls Try.prog 14 #[v] w fun e w' => e = .returned (.tuple #[.slice none 0 0, .bool false]) ∧ Below w.heap.size w w' := by
  have kc : ∀ w', Below w.heap.size w w' → (convert 22 9 v).run Try.prog w' = .ok (.string (str xs)) w' := fun w' hb => conv_sl Try.underlying22 Try.underlying5 Try.underlying9 (hr.below hb)
  obtain ⟨A, c, rfl, hc, hcm, hA, hrr⟩ := hr
  have hs1 : SlB w (.slice A (xs.length - 4) c) (xs.take (xs.length - 4)) := slB_take ⟨A, c, rfl, hc, hcm, hA, hrr⟩ _ (by omega)
  have e1 : ((xs.length : Int) - 4).toNat = xs.length - 4 := by omega
  have hd : decide ((xs.length : Int) - 4 < 0) = false := by simp; omega
  have hl : (xs.take (xs.length - 4)).length ≤ 1099511627776 := by rw [List.length_take]; omega
  have b1 : 4 ≤ (xs.length : Int) := by omega
  have b2 : (xs.length : Int) - 4 ≤ c := by omega
  have hcur : Below w.heap.size w w := Below.refl _ _
  have hneq : (crcPut (xs.take (xs.length - 4)) == xs) = false := beq_eq_false_iff_ne.2 hne
  go_enter Try.func14, Try.ntmps14
  go_wp2
  refine wp_region_E (by kernel_rfl) ?_
  replace hcur := below_via hcur (ext_drew _)
  refine wpAnyE_take (i := 0) (v := ?_) (some 8) rfl rfl (by kernel_rfl) (by kernel_rfl) (by kernel_rfl) (fun _ _ _ h => h) ?_ ?_
  rotate_left 1
  · (refine Or.inl ⟨by rfl, ?_⟩; intro w' hw'; have hq := below_via hcur hw'; (try go_simp); (try rfl); done)
  try simp only [Act.put, List.setIfInBounds_toArray, List.set_cons_zero, List.set_cons_succ]
  refine wpAnyE_take (i := 1) (v := ?_) (some 9) rfl rfl (by kernel_rfl) (by kernel_rfl) (by kernel_rfl) (fun _ _ _ h => h) ?_ ?_
  rotate_left 1
  · (refine Or.inl ⟨by rfl, ?_⟩; intro w' hw'; have hq := below_via hcur hw'; (try go_simp); (try rfl); done)
  try simp only [Act.put, List.setIfInBounds_toArray, List.set_cons_zero, List.set_cons_succ]
  refine wpAnyE_take (i := 2) (v := ?_) (some 10) rfl rfl (by kernel_rfl) (by kernel_rfl) (by kernel_rfl) (fun _ _ _ h => h) ?_ ?_
  rotate_left 1
  · (refine Or.inl ⟨by rfl, ?_⟩; intro w' hw'; have hq := below_via hcur hw'; (try go_simp); (try rfl); done)
  try simp only [Act.put, List.setIfInBounds_toArray, List.set_cons_zero, List.set_cons_succ]
  refine wpAnyE_take (i := 3) (v := ?_) (some 11) rfl rfl (by kernel_rfl) (by kernel_rfl) (by kernel_rfl) (fun _ _ _ h => h) ?_ ?_
  rotate_left 1
  · (refine Or.inl ⟨by rfl, ?_⟩; intro w' hw'; have hq := below_via hcur hw'; (try go_simp); (try rfl); done)
  try simp only [Act.put, List.setIfInBounds_toArray, List.set_cons_zero, List.set_cons_succ]
  refine wpAnyE_take (i := 4) (v := ?_) (some 12) rfl rfl (by kernel_rfl) (by kernel_rfl) (by kernel_rfl) (fun _ _ _ h => h) ?_ ?_
  rotate_left 1
  · (refine Or.inl ⟨by rfl, ?_⟩; intro w' hw'; have hq := below_via hcur hw'; (try go_simp); (try rfl); done)
  try simp only [Act.put, List.setIfInBounds_toArray, List.set_cons_zero, List.set_cons_succ]
  refine wpAnyE_take (i := 5) (v := ?_) (some 13) rfl rfl (by kernel_rfl) (by kernel_rfl) (by kernel_rfl) (fun _ _ _ h => h) ?_ ?_
  rotate_left 1
  · (refine Or.inl ⟨by rfl, ?_⟩; intro w' hw'; have hq := below_via hcur hw'; (try go_simp); (try rfl); done)
  try simp only [Act.put, List.setIfInBounds_toArray, List.set_cons_zero, List.set_cons_succ]
  refine wpAnyE_take (i := 8) (v := ?_) (some 16) rfl rfl (by kernel_rfl) (by kernel_rfl) (by kernel_rfl) (fun _ _ _ h => h) ?_ ?_
  rotate_left 1
  · (refine Or.inl ⟨by rfl, ?_⟩; intro w' hw'; have hq := below_via hcur hw'; (try go_simp); (try rfl); done)
  try simp only [Act.put, List.setIfInBounds_toArray, List.set_cons_zero, List.set_cons_succ]
  refine wpAnyE_take (i := 9) (v := ?_) (some 17) rfl rfl (by kernel_rfl) (by kernel_rfl) (by kernel_rfl) (fun _ _ _ h => h) ?_ ?_
  rotate_left 1
  · (refine Or.inl ⟨by rfl, ?_⟩; intro w' hw'; have hq := below_via hcur hw'; (try go_simp); (try rfl); done)
  try simp only [Act.put, List.setIfInBounds_toArray, List.set_cons_zero, List.set_cons_succ]
  refine wpAnyE_one (i := 6) rfl (by kernel_rfl) (by rfl) (fun K hK => ?_)
  go_simp
  (with_reducible refine (put_any _ _ _ hl (hs1.below hcur)).mono ?_); rintro e w1 ⟨v1, rfl, ho, hb⟩
  refine hK.out _ _ hb ?_
  replace hcur := below_via hcur hb; clear hK K
  try simp only [Act.put, List.setIfInBounds_toArray, List.set_cons_zero, List.set_cons_succ]
  have kd : ∀ w', Ext w1 w' → _ := fun w' hw' => conv_sl (P := Try.prog) (src := 22) (dst := 9) Try.underlying22 Try.underlying5 Try.underlying9 (ho.sl.below hw')
  refine wpAnyE_take (i := 7) (v := ?_) (some 15) rfl rfl (by kernel_rfl) (by kernel_rfl) (by kernel_rfl) (fun _ _ _ h => h) ?_ ?_
  rotate_left 1
  · (refine Or.inl ⟨by rfl, ?_⟩; intro w' hw'; have hq := below_via hcur hw'; (try go_simp); (try rfl); done)
  try simp only [Act.put, List.setIfInBounds_toArray, List.set_cons_zero, List.set_cons_succ]
  refine wpAnyE_take (i := 10) (v := ?_) (some 18) rfl rfl (by kernel_rfl) (by kernel_rfl) (by kernel_rfl) (fun _ _ _ h => h) ?_ ?_
  rotate_left 1
  · (refine Or.inl ⟨by rfl, ?_⟩; intro w' hw'; have hq := below_via hcur hw'; (try go_simp); (try rfl); done)
  try simp only [Act.put, List.setIfInBounds_toArray, List.set_cons_zero, List.set_cons_succ]
  refine wpAnyE_take (i := 11) (v := ?_) (some 19) rfl rfl (by kernel_rfl) (by kernel_rfl) (by kernel_rfl) (fun _ _ _ h => h) ?_ ?_
  rotate_left 1
  · (refine Or.inl ⟨by rfl, ?_⟩; intro w' hw'; have hq := below_via hcur hw'; (try go_simp); (try rfl); done)
  try simp only [Act.put, List.setIfInBounds_toArray, List.set_cons_zero, List.set_cons_succ]
  refine wpAnyE_done (by kernel_rfl) ?_ _
  go_wp2
  go_ret2
  exact ⟨rfl, hcur⟩

theorem div_mod8 (x : UInt64) (k : Nat) : c64 x / 2 ^ (k % 8) = c64 (x >>> UInt64.ofNat (k % 8)) := c64_div_two_pow x _ (by omega)
theorem div_32 (x : UInt64) : c64 x / (4294967296 : Int) = c64 (x >>> 32) := c64_div_two_pow x 32 (by omega)
theorem beq1_64 (x : UInt64) : (c64 x == 1) = (x == 1) := c64_beq x 1
theorem beq0_64 (x : UInt64) : (c64 x == 0) = (x == 0) := c64_beq x 0
theorem w64_mul2 (x : UInt64) : IntKind.u64.wrap (2 * c64 x) = c64 (2 * x) := w64_mul 2 x
theorem and1_64 (x : UInt64) : Op.intBits .and .u64 (c64 x) 1 = pure (.int .u64 (c64 (x &&& 1))) := i64_and x 1
theorem xor1_64 (x : UInt64) : Op.intBits .xor .u64 (c64 x) 1 = pure (.int .u64 (c64 (x ^^^ 1))) := i64_xor x 1
theorem xorP_64 (x : UInt64) : Op.intBits .xor .u64 (c64 x) 4374732215 = pure (.int .u64 (c64 (x ^^^ 4374732215))) := i64_xor x 4374732215
theorem w64_id (x : UInt64) : IntKind.u64.wrap (c64 x) = c64 x := by have := x.toNat_lt; rw [IntKind.wrap_u64]; unfold c64; omega
theorem xor01 : bits BinOp.xor IntKind.u64 0 1 = c64 1 := by decide
attribute [local go_sem high] w64_id xor01 i64_xor i64_and i64_or w64_add w64_mul2 div_32 beq1_64 beq0_64 wrap_8_64 div_mod8 and1_64 xor1_64 xorP_64

theorem step_t {r b : UInt64} (h : ((2 * r + b) >>> 32 == 1) = true) : Value.int .u64 (c64 ((2 * r + b) ^^^ 4374732215)) = .int .u64 (c64 (refStep r b)) := by
  have h' : (2 * r + b) >>> 32 = 1 := by simpa using h
  unfold refStep; rw [if_pos h']
theorem step_f {r b : UInt64} (h : ((2 * r + b) >>> 32 == 1) = false) : Value.int .u64 (c64 (2 * r + b)) = .int .u64 (c64 (refStep r b)) := by
  have h' : ¬ (2 * r + b) >>> 32 = 1 := by simpa using h
  unfold refStep; rw [if_neg h']

theorem step_t0 {r : UInt64} (h : ((2 * r) >>> 32 == 1) = true) : Value.int .u64 (c64 ((2 * r) ^^^ 4374732215)) = .int .u64 (c64 (refStep r 0)) := by
  have := step_t (r := r) (b := 0); rw [UInt64.add_zero] at this; exact this h
theorem step_f0 {r : UInt64} (h : ((2 * r) >>> 32 == 1) = false) : Value.int .u64 (c64 (2 * r)) = .int .u64 (c64 (refStep r 0)) := by
  have := step_f (r := r) (b := 0); rw [UInt64.add_zero] at this; exact this h
theorem out_t {r : UInt64} {k : Nat} (hk : k < 32) (h : (r >>> UInt64.ofNat k &&& 1 == 0) = true) :
    Value.int .u32 ((c32 (refOut r k) + 2 ^ (31 - k) % 4294967296) % 4294967296) = .int .u32 (c32 (refOut r (k + 1))) := by
  have h' : (r >>> UInt64.ofNat k) &&& 1 = 0 := by simpa using h
  have e : refOut r (k + 1) = refOut r k + (1 <<< UInt32.ofNat (31 - k)) := by show (if _ then _ else _) = _; rw [if_pos h']
  rw [e]
  have hp : (1 <<< UInt32.ofNat (31 - k) : UInt32).toNat = 2 ^ (31 - k) := by
    rw [UInt32.toNat_shiftLeft, UInt32.toNat_ofNat', Nat.mod_eq_of_lt (show 31 - k < 2 ^ 32 by omega), Nat.mod_eq_of_lt (show 31 - k < 32 by omega)]
    show 1 <<< (31 - k) % 2 ^ 32 = _
    rw [Nat.shiftLeft_eq, Nat.one_mul]
    exact Nat.mod_eq_of_lt (Nat.pow_lt_pow_right (by omega) (by omega))
  have hlt : 2 ^ (31 - k) < 4294967296 := Nat.pow_lt_pow_right (m := 31 - k) (n := 32) (a := 2) (by omega) (by omega)
  congr 1
  unfold c32
  rw [UInt32.toNat_add, hp]
  have hc : ((2 : Int) ^ (31 - k)) = ((2 ^ (31 - k) : Nat) : Int) := by simp
  rw [hc]
  omega
theorem out_f {r : UInt64} {k : Nat} (h : (r >>> UInt64.ofNat k &&& 1 == 0) = false) :
    Value.int .u32 (c32 (refOut r k)) = .int .u32 (c32 (refOut r (k + 1))) := by
  have h' : ¬ (r >>> UInt64.ofNat k) &&& 1 = 0 := by simpa using h
  congr 2; show _ = (if _ then _ else _); rw [if_neg h']

set_option maxHeartbeats 1000000 in
theorem refSum_any (A : Option Addr) (c : Nat) (xs : List UInt8) (w : World) (hn : xs.length ≤ 1099511627776) (hr : RdB w A xs) :
    Calls Try.prog 10 #[.slice A xs.length c] w fun e w' => e = .returned (.int .u32 (c32 (refOut (refRest xs (8 * xs.length + 32)) 32))) ∧ w = w' := by
  go_enter Try.func10, Try.ntmps10
  go_wp2
  go_loop [3, 4] (fun r i => ∃ k : Nat, k ≤ 8 * xs.length + 32 ∧ i = .int .i64 k ∧ r = .int .u64 (c64 (refRest xs k))) (fun _ i => 8 * xs.length + 32 - (intOf i).toNat)
  case atStart => exact ⟨0, by omega, rfl, rfl⟩
  case round =>
    obtain ⟨k, hk, rfl, rfl⟩ := hrel
    by_cases hlt : k < 8 * xs.length + 32
    · by_cases h1 : k < 8 * xs.length
      · obtain ⟨ad, rfl, hc⟩ := hr.cell (i := k / 8) (by omega)
        have b1 : (0:Int) ≤ (k : Int) / 8 := by omega
        have b2 : (k : Int) / 8 < xs.length := by omega
        have b3 : ((k : Int) / 8).toNat = k / 8 := by omega
        by_cases h2 : k < 32
        · have hb : Hid (refBit xs k = ((xs[k / 8]?.getD 0).toUInt64 >>> UInt64.ofNat (k % 8) &&& 1) ^^^ 1) := by unfold Hid refBit refBit0; rw [if_pos h2, if_pos h1, List.getD_eq_getElem?_getD]
          go_wp2
          all_goals
            go_round
            case rel => exact ⟨k + 1, by omega, by go_num, by show _ = Value.int .u64 (c64 (refStep (refRest xs k) (refBit xs k))); rw [hb.out]; first | exact step_t ‹_› | exact step_f ‹_›⟩
            case measure => simp [intOf]; omega
        · have hb : Hid (refBit xs k = ((xs[k / 8]?.getD 0).toUInt64 >>> UInt64.ofNat (k % 8) &&& 1)) := by unfold Hid refBit refBit0; rw [if_neg h2, if_pos h1, List.getD_eq_getElem?_getD]
          go_wp2
          all_goals
            go_round
            case rel => exact ⟨k + 1, by omega, by go_num, by show _ = Value.int .u64 (c64 (refStep (refRest xs k) (refBit xs k))); rw [hb.out]; first | exact step_t ‹_› | exact step_f ‹_›⟩
            case measure => simp [intOf]; omega
      · by_cases h2 : k < 32
        · have hb : Hid (refBit xs k = 1) := by unfold Hid refBit refBit0; rw [if_pos h2, if_neg h1]; rfl
          go_wp2
          all_goals
            go_round
            case rel => exact ⟨k + 1, by omega, by go_num, by show _ = Value.int .u64 (c64 (refStep (refRest xs k) (refBit xs k))); rw [hb.out]; first | exact step_t ‹_› | exact step_f ‹_›⟩
            case measure => simp [intOf]; omega
        · have hb : Hid (refBit xs k = 0) := by unfold Hid refBit refBit0; rw [if_neg h2, if_neg h1]
          go_wp2
          all_goals
            go_round
            case rel => exact ⟨k + 1, by omega, by go_num, by show _ = Value.int .u64 (c64 (refStep (refRest xs k) (refBit xs k))); rw [hb.out]; first | exact step_t0 ‹_› | exact step_f0 ‹_›⟩
            case measure => simp [intOf]; omega
    · have : k = 8 * xs.length + 32 := by omega
      subst this
      go_wp2
      go_loop [6, 7] (fun r i => ∃ k : Nat, k ≤ 32 ∧ i = .int .i64 k ∧ r = .int .u32 (c32 (refOut (refRest xs (8 * xs.length + 32)) k))) (fun _ i => 32 - (intOf i).toNat)
      case atStart => exact ⟨0, by omega, rfl, rfl⟩
      case round =>
        obtain ⟨k, hk, rfl, rfl⟩ := hrel
        by_cases hlt : k < 32
        · have hs := c64_div_two_pow (refRest xs (8 * xs.length + 32)) k (by omega)
          go_wp2
          all_goals
            go_round
            case rel => exact ⟨k + 1, by omega, by go_num, by first | exact out_t hlt ‹_› | exact out_f ‹_›⟩
            case measure => simp [intOf]; omega
        · go_wp2
          go_ret
          have : k = 32 := by omega
          subst this
          exact ⟨rfl, rfl⟩
end Go.Proofs.Ytmlndnfehcafgaa

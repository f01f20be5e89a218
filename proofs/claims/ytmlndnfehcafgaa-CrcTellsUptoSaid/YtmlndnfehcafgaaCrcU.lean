/- The law CrcTells: its closure that turns bits, walked. -/
import Derived.Test.YtmlndnfehcafgaaCrcB
import Derived.Test.YtmlndnfehcafgaaCrcT
set_option linter.unusedVariables false
set_option linter.unusedSimpArgs false
namespace Go.Proofs.Ytmlndnfehcafgaa
open Go.RowKit

theorem bits_and32 (x y : UInt32) : bits .and .u32 (c32 x) (c32 y) = c32 (x &&& y) := by
  show (IntKind.u32.wrap ((BitVec.ofInt 32 (c32 x) &&& BitVec.ofInt 32 (c32 y)).toNat : Int)) = _
  rw [bv32, bv32]; exact back32 (x &&& y)
theorem bits_xor8 (x y : UInt8) : bits .xor .u8 (c8 x) (c8 y) = c8 (x ^^^ y) := by
  show (IntKind.u8.wrap ((BitVec.ofInt 8 (c8 x) ^^^ BitVec.ofInt 8 (c8 y)).toNat : Int)) = _
  rw [bv8, bv8]; exact back8 (x ^^^ y)
theorem shl8 (m : Nat) (hm : m < 8) : (2 : Int) ^ m % (256 : Int) = c8 (1 <<< UInt8.ofNat m) := by
  have : ∀ m : Fin 8, (2 : Int) ^ m.val % (256 : Int) = c8 (1 <<< UInt8.ofNat m.val) := by decide +kernel
  exact this ⟨m, hm⟩
theorem below_setCell {B : Nat} {w0 w : World} (h : Below B w0 w) {g : Nat} (hg : B ≤ g) {j : Nat} (u : Value) : Below B w0 (w.setCell ⟨g, j, none⟩ u) := h.setCell hg u
theorem OwB.some {B n c : Nat} {w : World} {A : Option Addr} {xs : List UInt8} (h : OwB B w (.slice A n c) xs) (hn : 0 < xs.length) : ∃ g, A = Option.some ⟨g, 0, none⟩ ∧ B ≤ g ∧ n = xs.length := by
  have h1 := h.sl
  obtain ⟨A', c', e, _⟩ := h1
  injection e with e1 e2 e3
  rcases h.2 with ⟨e, h0⟩ | ⟨g, cap, cur, e, hb, _⟩
  · injection e with _ e _; omega
  · injection e with e _ _; exact ⟨g, e, hb, e2⟩
theorem OwB.set {B n c g : Nat} {w : World} {xs : List UInt8} (h : OwB B w (.slice (.some ⟨g, 0, none⟩) n c) xs) (hn : n = xs.length) (j : Nat) (y : UInt8) : OwB B (w.setCell ⟨g, j, none⟩ (.int .u8 (c8 y))) (.slice (.some ⟨g, 0, none⟩) n c) (xs.set j y) := by
  subst hn
  have := (World.ownsRow.stored h j (.int .u8 (c8 y))).1
  unfold OwB
  rw [List.length_set]
  have e : bs (xs.set j y) = (bs xs).set j (.int .u8 (c8 y)) := by simp [bs, List.map_set]
  rw [e]; exact this
theorem bits_and1 (n : UInt32) (j : Nat) (hj : j < 32) : bits .and .u32 (c32 n / 2 ^ j) 1 = if n.toNat.testBit j then 1 else 0 := by
  rw [c32_div_two_pow n j hj, show (1 : Int) = c32 1 from rfl, bits_and32]
  have h : (n >>> UInt32.ofNat j &&& 1).toNat = (n.toNat >>> j) % 2 := by
    rw [UInt32.toNat_and, UInt32.toNat_shiftRight, UInt32.toNat_ofNat', Nat.mod_eq_of_lt (show j < 2 ^ 32 by omega), Nat.mod_eq_of_lt hj]; exact Nat.and_one_is_mod _
  have e : n.toNat.testBit j = decide ((n.toNat >>> j) % 2 = 1) := by rw [Nat.testBit_eq_decide_div_mod_eq, Nat.shiftRight_eq_div_pow]
  unfold c32
  rw [h, e]
  by_cases hc : (n.toNat >>> j) % 2 = 1
  · rw [hc]; rfl
  · rw [show (n.toNat >>> j) % 2 = 0 by omega]; rfl
theorem lowest (n : UInt32) (hn : n ≠ 0) : ∃ lo, lo < 32 ∧ n.toNat.testBit lo = true ∧ ∀ j, j < lo → n.toNat.testBit j = false := by
  have h0 : n.toNat ≠ 0 := fun h => hn (UInt32.toNat_inj.1 (by rw [h]; rfl))
  obtain ⟨i, hi⟩ := Nat.exists_testBit_of_ne_zero h0
  have ex : ∃ k, ∀ m, m = n.toNat → m.testBit k = true := ⟨i, fun m hm => by rw [hm]; exact hi⟩
  have key : ∀ (k : Nat), n.toNat.testBit k = true → ∃ lo, lo ≤ k ∧ n.toNat.testBit lo = true ∧ ∀ j, j < lo → n.toNat.testBit j = false := by
    intro k
    induction k using Nat.strongRecOn with
    | _ k ih =>
      intro hk
      by_cases hc : ∃ j, j < k ∧ n.toNat.testBit j = true
      · obtain ⟨j, hj, hj2⟩ := hc
        obtain ⟨lo, h1, h2, h3⟩ := ih j hj hj2
        exact ⟨lo, by omega, h2, h3⟩
      · refine ⟨k, Nat.le_refl _, hk, fun j hj => ?_⟩
        cases hq : n.toNat.testBit j with
        | false => rfl
        | true => exact absurd ⟨j, hj, hq⟩ hc
  obtain ⟨lo, h1, h2, h3⟩ := key i hi
  refine ⟨lo, ?_, h2, h3⟩
  apply Classical.byContradiction
  intro hc
  have := Nat.testBit_lt_two_pow (x := n.toNat) (i := lo) (Nat.lt_of_lt_of_le n.toNat_lt (Nat.pow_le_pow_right (by omega) (by omega)))
  rw [this] at h2; cases h2
theorem mod_at (a : Int) (m : Nat) (hm : 0 < m) : ∃ f : Nat, (IntKind.u64.wrap a).tmod (m : Int) = f ∧ f < m := by
  have h0 : 0 ≤ IntKind.u64.wrap a := by rw [IntKind.wrap_u64]; omega
  rw [Int.tmod_eq_emod_of_nonneg h0]
  have hm1 := Int.emod_nonneg (IntKind.u64.wrap a) (show (m : Int) ≠ 0 by omega)
  have hm2 := Int.emod_lt_of_pos (IntKind.u64.wrap a) (show 0 < (m : Int) by omega)
  exact ⟨(IntKind.u64.wrap a % (m : Int)).toNat, by omega, by omega⟩
/-- The second text is the first with a burst turned. -/
def Burst (xs ys : List UInt8) : Prop := ys.length = xs.length ∧ ∃ f, f < 8 * xs.length ∧ (∀ k, k < f → tbit ys k = tbit xs k) ∧ tbit ys f ≠ tbit xs f ∧ ∀ k, f + 32 ≤ k → tbit ys k = tbit xs k
set_option maxRecDepth 10000 in
set_option maxHeartbeats 2000000 in
theorem turned_any (v : Value) (xs : List UInt8) (ga gb : Nat) (at_ : Int) (n : UInt32) (hn : n ≠ 0) (w : World) (hv : SlB w v xs) (hl0 : 0 < xs.length) (hl : xs.length ≤ 1048576) (ha1 : -9223372036854775808 ≤ at_) (ha2 : at_ ≤ 9223372036854775807)
    (hga : w.cell? ⟨ga, 0, none⟩ = some (.int .i64 at_)) (hgb : w.cell? ⟨gb, 0, none⟩ = some (.int .u32 (c32 n))) :
    Calls Try.prog 17 #[v, .pointer (some ⟨ga, 0, none⟩), .pointer (some ⟨gb, 0, none⟩)] w fun e w' => ∃ v' ys, e = .returned v' ∧ OwB w.heap.size w' v' ys ∧ Burst xs ys ∧ Below w.heap.size w w' := by
  have lga := World.block_lt_of_cell? _ _ hga
  have lgb := World.block_lt_of_cell? _ _ hgb
  obtain ⟨lo, hlo, hlo1, hlo2⟩ := lowest n hn
  replace hlo1 : Hid _ := hlo1
  replace hlo2 : Hid _ := hlo2
  obtain ⟨f, hf, hf2⟩ := mod_at at_ (8 * xs.length) (by omega)
  have hf3 : RowKit.wrap64 (f : Int) = f := by unfold RowKit.wrap64; omega
  have hf4 : (0 : Int) ≤ f := by omega
  rw [show ((8 * xs.length : Nat) : Int) = 8 * (xs.length : Int) by omega] at hf
  have hv0 := hv
  obtain ⟨A, c, rfl, hc, hcm, hA, hrr⟩ := hv
  go_enter Try.func17, Try.ntmps17
  go_wp2_with (at_builtin; go_loud (refine wpl_cpB rfl _ _ rfl rfl rfl hv0 (by omega) ?_))
  intro v1 w1 h1 b1
  obtain ⟨A1, c1, rfl, _, _, _, _⟩ := id h1.sl
  obtain ⟨g, rfl, hgB, _⟩ := h1.some hl0
  have ga1 := (b1.cell lga).trans hga
  have gb1 := (b1.cell lgb).trans hgb
  have hga0 := hga
  have hgb0 := hgb
  clear hrr hA hga hgb
  go_wp2_with fail
  go_loop [7] (fun i => ∃ j : Nat, j ≤ lo ∧ i = .int .i64 j) (fun i => lo - (intOf i).toNat)
  case atStart => exact ⟨0, by omega, rfl⟩
  case round =>
    obtain ⟨j, hj, rfl⟩ := hrel
    by_cases hlt : j < lo
    · have hb := bits_and1 n j (by omega)
      rw [hlo2.out j hlt, if_neg (by decide)] at hb
      go_wp2_with fail
      go_round
      case rel => exact ⟨j + 1, by omega, by go_num⟩
      case measure => simp [intOf]; omega
    · obtain rfl : j = lo := by omega
      have hb := bits_and1 n j (by omega)
      rw [hlo1.out, if_pos rfl] at hb
      go_wp2_with fail
      clear hb hf3
      go_loopw [8] (fun i wr => ∃ (m : Nat) (ys : List UInt8), j ≤ m ∧ m ≤ 32 ∧ i = .int .i64 m ∧ ys.length = xs.length ∧ OwB w.heap.size wr (.slice (some ⟨g, 0, none⟩) xs.length c1) ys ∧ Below w.heap.size w wr ∧
          (∀ k, k < f → tbit ys k = tbit xs k) ∧ (∀ k, f + (m - j) ≤ k → tbit ys k = tbit xs k) ∧ (j < m → tbit ys f ≠ tbit xs f)) (fun i _ => 32 - (intOf i).toNat)
      case atStart => exact ⟨j, xs, by omega, by omega, rfl, rfl, h1, b1, fun _ _ => rfl, fun _ _ => rfl, fun h => absurd h (by omega)⟩
      case round =>
        obtain ⟨m, ys, hm1, hm2, rfl, hyl, ho, bw, t1, t2, t3⟩ := hrel
        replace hyl : Hid _ := hyl
        replace t1 : Hid _ := t1
        replace t2 : Hid _ := t2
        replace t3 : Hid _ := t3
        have ga2 := (bw.cell lga).trans hga0
        have gb2 := (bw.cell lgb).trans hgb0
        by_cases hlt : m < 32
        · have hb := bits_and1 n m hlt
          have w1' : IntKind.i64.wrap ((f : Int) + m) = (f : Int) + m := by rw [IntKind.wrap_i64]; omega
          obtain ⟨q, hq0⟩ : ∃ q : Nat, q = f + (m - j) := ⟨_, rfl⟩
          have w2' : IntKind.i64.wrap ((f : Int) + m - j) = (q : Int) := by rw [IntKind.wrap_i64]; omega
          replace hq0 : Hid _ := hq0
          cases hq : n.toNat.testBit m
          · rw [hq, if_neg (by decide)] at hb
            go_wp2_with fail
            go_roundw
            case rel =>
              refine ⟨m + 1, ys, by omega, by omega, by go_num, hyl.out, ho, bw, t1.out, fun k hk => t2.out k (by omega), fun h => ?_⟩
              by_cases hjm : j < m
              · exact t3.out hjm
              · obtain rfl : j = m := by omega
                rw [hlo1.out] at hq; cases hq
            case measure => simp [intOf]; omega
          · rw [hq, if_pos rfl] at hb
            by_cases hin : q < 8 * xs.length
            · have hin' : (q : Int) < 8 * xs.length := by omega
              have i0 : (0 : Int) ≤ (q : Int) / 8 := by omega
              have i1 : (q : Int) / 8 < xs.length := by omega
              have i2 : ((q : Int) / 8).toNat = q / 8 := by omega
              have ho2 := ho
              rw [← hyl.out] at ho2
              have f1 := World.ownsRow.cellAt ho2 (q / 8) (by rw [hyl.out]; omega)
              rw [bs_get _ (by rw [hyl.out]; omega)] at f1
              have f2 := World.ownsRow.frozenAt ho2 (q / 8)
              have hset := ho.set hyl.out.symm (q / 8) (ys.getD (q / 8) 0 ^^^ (1 <<< UInt8.ofNat (q % 8)))
              generalize hyy : ys.getD (q / 8) 0 = y at f1 hset
              replace hyy : Hid _ := hyy
              clear ho2
              replace hset : Hid _ := hset
              go_wp2_with fail
              rw [shl8 _ (Nat.mod_lt _ (by decide)), bits_xor8]
              have hfl : ∀ k, tbit (flip ys q) k = xor (tbit ys k) (decide (k = q)) := fun k => tbit_flip ys q k (by rw [hyl.out]; exact hin)
              go_roundw
              case rel =>
                refine ⟨m + 1, flip ys q, by omega, by omega, by go_num, by rw [flip_length, hyl.out], ?_, below_setCell bw hgB _, fun k hk => ?_, fun k hk => ?_, fun h => ?_⟩
                · have := hset.out
                  unfold flip; rw [hyy.out]; exact this
                · rw [hfl, t1.out k hk, decide_eq_false (by have := hq0.out; omega), Bool.xor_false]
                · rw [hfl, t2.out k (by omega), decide_eq_false (by have := hq0.out; omega), Bool.xor_false]
                · rw [hfl]
                  by_cases hjm : j < m
                  · rw [decide_eq_false (by have := hq0.out; omega), Bool.xor_false]; exact t3.out hjm
                  · rw [decide_eq_true (by have := hq0.out; omega), t2.out f (by omega)]
                    cases tbit xs f <;> decide
              case measure => simp [intOf]; omega
            · have hin' : ¬ (q : Int) < 8 * xs.length := by omega
              go_wp2_with fail
              go_roundw
              case rel =>
                refine ⟨m + 1, ys, by omega, by omega, by go_num, hyl.out, ho, bw, t1.out, fun k hk => t2.out k (by omega), fun h => ?_⟩
                by_cases hjm : j < m
                · exact t3.out hjm
                · have := hq0.out; omega
              case measure => simp [intOf]; omega
        · go_wp2_with fail
          go_ret
          obtain rfl : m = 32 := by omega
          rw [← hyl.out] at ho ⊢
          exact ⟨_, ys, rfl, ho, ⟨hyl.out, f, hf2, t1.out, t3.out hlo, fun k hk => t2.out k (by omega)⟩, bw⟩
end Go.Proofs.Ytmlndnfehcafgaa

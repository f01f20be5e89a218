/- Slices of texts; bytes.Equal; half; lists in new memory (walks). -/
import Derived.Test.YtnpbapefjbfndaaZXm
import Derived.Test.YtnpbapefjbfndaaZXa
set_option linter.unusedVariables false
set_option linter.unusedSimpArgs false
set_option maxRecDepth 10000
namespace Go.Proofs.Ytnpbapefjbfndaa
open Go.RowKit
attribute [local go_sem high] rs_l rs_lh rs_lhm rs_h rs_hm rs_all

theorem sum_len (zs : List (List UInt8)) : zs.length ≤ (zs.map fun z => z.length + 1).sum ∧ ∀ z ∈ zs, z.length + 1 ≤ (zs.map fun z => z.length + 1).sum := by
  induction zs with
  | nil => exact ⟨by simp, fun z h => by cases h⟩
  | cons a r ih =>
    simp only [List.map_cons, List.sum_cons, List.length_cons, List.mem_cons]
    refine ⟨by omega, fun z hz => ?_⟩
    rcases hz with rfl | hz
    · omega
    · have := ih.2 z hz; omega
/-- A slice of these texts. -/
def SlX (w : World) (v : Value) (zs : List (List UInt8)) : Prop := ∃ vs : List Value, Sl w v zs.length vs ∧ vs.length = zs.length ∧ ∀ (i : Nat) u x, vs[i]? = some u → zs[i]? = some x → SlB w u x
theorem SlX.below {w w' : World} {v : Value} {zs : List (List UInt8)} (h : SlX w v zs) (hb : Below w.heap.size w w') : SlX w' v zs := by
  obtain ⟨vs, h1, h2, h3⟩ := h
  exact ⟨vs, h1.below hb, h2, fun i u x hu hx => (h3 i u x hu hx).below hb⟩
theorem SlX.get {w : World} {A : Option Addr} {n c : Nat} {zs : List (List UInt8)} (h : SlX w (.slice A n c) zs) {k : Nat} (hk : k < zs.length) : ∃ ad u, A = some ad ∧ w.cell? (ad.add k) = some u ∧ SlB w u (zs.getD k []) ∧ u.oneCell' = true := by
  obtain ⟨vs, ⟨A', c', e, _, _, _, hr⟩, h2, h3⟩ := h
  injection e with e1 e2 e3
  subst e1
  have hk2 : k < vs.length := by omega
  obtain ⟨ad, e, hcell⟩ := hr k vs[k] (by simp [hk2])
  have hs := h3 k vs[k] (zs.getD k []) (by simp [hk2]) (by simp [hk])
  refine ⟨ad, vs[k], e, hcell, hs, ?_⟩
  obtain ⟨A2, c2, e2, _⟩ := hs
  rw [e2]; rfl
theorem SlX.len {w : World} {v : Value} {zs : List (List UInt8)} (h : SlX w v zs) : ∃ A c, v = .slice A zs.length c ∧ zs.length ≤ c ∧ c ≤ 9223372036854775807 := by
  obtain ⟨vs, ⟨A, c, e, h1, h2, _⟩, _⟩ := h
  exact ⟨A, c, e, h1, h2⟩
theorem slX_nil (w : World) : SlX w (.slice none 0 0) [] := ⟨[], sl_nil w, rfl, fun i u x h => by simp at h⟩
theorem SlX.slice {w : World} {A : Option Addr} {n c : Nat} {zs : List (List UInt8)} (h : SlX w (.slice A n c) zs) (l k : Nat) (hl : l ≤ k) (hk : k ≤ zs.length) :
    SlX w (.slice (slA A l c 1) (k - l) (c - l)) ((zs.drop l).take (k - l)) := by
  obtain ⟨vs, h1, h2, h3⟩ := h
  have hn : n = zs.length := by obtain ⟨A', c', e, _⟩ := h1; injection e
  subst hn
  have := sl_slice (s := 1) h1 (by omega) l k hl hk
  simp only [Nat.mul_one] at this
  refine ⟨(vs.drop l).take (k - l), ?_, by simp; omega, fun i u x hu hx => ?_⟩
  · rw [List.length_take, List.length_drop, Nat.min_eq_left (by omega)]; exact this
  · rw [List.getElem?_take] at hu hx
    split at hu
    · rw [if_pos (by assumption)] at hx
      rw [List.getElem?_drop] at hu hx
      exact h3 _ u x hu hx
    · cases hu
theorem SlX.cap {w : World} {A : Option Addr} {n c : Nat} {zs : List (List UInt8)} (h : SlX w (.slice A n c) zs) (m : Nat) (h1 : n ≤ m) (h2 : m ≤ c) : SlX w (.slice A n m) zs := by
  obtain ⟨vs, ⟨A', c', e, hc, hcm, hA, hr⟩, h4, h5⟩ := h
  injection e with e1 e2 e3
  subst e1; subst e3; subst e2
  exact ⟨vs, ⟨A, m, rfl, h1, by omega, fun h0 => by have := hA h0; omega, hr⟩, h4, h5⟩
/-- A slice of these values is a slice of these texts. -/
theorem SlX.of {w : World} {v : Value} {vs : List Value} {zs : List (List UInt8)} (h : Sl w v vs.length vs) (hl : vs.length = zs.length) (hr : ∀ (i : Nat) u x, vs[i]? = some u → zs[i]? = some x → SlB w u x) : SlX w v zs := ⟨vs, by rw [← hl]; exact h, hl, hr⟩

/-! ### bytes.Equal -/
set_option maxHeartbeats 4000000 in
theorem equal_any (v u : Value) (x y : List UInt8) (w : World) (hv : SlB w v x) (hu : SlB w u y) :
    Calls Try.prog 31 #[v, u] w fun e w' => e = .returned (.bool (decide (x = y))) ∧ w = w' := by
  have k1 := conv_sl (P := Try.prog) (dst := 9) Try.underlying23 Try.underlying5 Try.underlying9 hv
  have k2 := conv_sl (P := Try.prog) (dst := 9) Try.underlying23 Try.underlying5 Try.underlying9 hu
  have e := str_beq x y
  go_enter Try.func31, Try.ntmps31
  go_wp2_with fail
  go_ret
  simp
  rw [Bool.eq_iff_iff]; simp

/-! ### half -/
theorem len8_get' (y : Int) (h : y.toNat < Lib.len8tab.size) : ((Lib.len8tab[y.toNat]'h).toNat : Int) = Lib.len8 y := by
  unfold Lib.len8
  rw [getElem?_pos Lib.len8tab y.toNat h]
  rfl
set_option maxHeartbeats 4000000 in
set_option maxRecDepth 100000 in
theorem len64_any (x : Int) (w : World) (h0 : 0 ≤ x) (h1 : x ≤ 16777215) :
    Calls Try.prog 58 #[.int .u64 x] w fun e w' => e = .returned (.int .i64 (Lib.bitLen x.toNat)) ∧ w = w' := by
  have g1 : ¬ (4294967296 : Int) ≤ x := by omega
  go_enter Try.func58, Try.ntmps58
  go_wp2
  all_goals have hs : (Lib.len8tab.size : Int) = 256 := by have : Lib.len8tab.size = 256 := Lib.len8tab_size; omega
  all_goals first
    | (go_ret; refine ⟨congrArg Ending.returned (congrArg (Value.int IntKind.i64) ?_), rfl⟩)
    | (exfalso; omega)
  all_goals first
    | (rw [len8_get' (x / 65536) _, Lib.len8_of (x / 65536) (by omega) (by omega)]
       have e : (x / 65536).toNat = x.toNat / 65536 := by omega
       have l := Lib.bitLen_le8' (x / 65536) (by omega) (by omega)
       have s := Lib.bitLen_shift16 x.toNat (by omega) (by omega)
       rw [e] at l ⊢
       unfold RowKit.wrap64
       omega)
    | (rw [len8_get' (x / 256) _, Lib.len8_of (x / 256) (by omega) (by omega)]
       have e : (x / 256).toNat = x.toNat / 256 := by omega
       have l := Lib.bitLen_le8' (x / 256) (by omega) (by omega)
       have s := Lib.bitLen_shift8 x.toNat (by omega) (by omega)
       rw [e] at l ⊢
       unfold RowKit.wrap64
       omega)
    | (rw [len8_get' x _, Lib.len8_of x (by omega) (by omega)]
       have l := Lib.bitLen_le8' x (by omega) (by omega)
       unfold RowKit.wrap64
       omega)
theorem len_any (x : Int) (w : World) (h0 : 0 ≤ x) (h1 : x ≤ 16777215) :
    Calls Try.prog 48 #[.int .u64 x] w fun e w' => e = .returned (.int .i64 (Lib.bitLen x.toNat)) ∧ w = w' := by
  go_enter Try.func48, Try.ntmps48
  go_wp2_with fail
  refine (len64_any x _ h0 h1).mono ?_
  rintro e w' ⟨rfl, rfl⟩
  go_wp2
  go_ret
  exact ⟨rfl, rfl⟩
theorem kOf_exp (n : Nat) (h : 2 ≤ n) (hn : n ≤ 1048576) : ∃ e : Nat, Lib.bitLen (n - 1) = e + 1 ∧ kOf n = 2 ^ e ∧ e ≤ 20 := by
  obtain ⟨h1, h2, h3⟩ := bitLen_range 64 (n - 1) (by omega) (by omega) (by omega)
  obtain ⟨a, b, _⟩ := kOf_lt h (by omega)
  refine ⟨Lib.bitLen (n - 1) - 1, by omega, rfl, ?_⟩
  by_cases hc : Lib.bitLen (n - 1) - 1 ≤ 20
  · exact hc
  · have := Nat.pow_le_pow_right (n := 2) (by omega) (show 21 ≤ Lib.bitLen (n - 1) - 1 by omega)
    unfold kOf at a; omega
set_option maxHeartbeats 4000000 in
theorem half_any (n : Nat) (w : World) (h : 2 ≤ n) (hn : n ≤ 1048576) :
    Calls Try.prog 32 #[.int .i64 n] w fun e w' => e = .returned (.int .i64 (kOf n)) ∧ w = w' := by
  obtain ⟨e, he, hke, he20⟩ := kOf_exp n h hn
  have w1 : IntKind.i64.wrap ((n : Int) - 1) = (n : Int) - 1 := by rw [IntKind.wrap_i64]; omega
  have w2 : IntKind.u64.wrap ((n : Int) - 1) = (n : Int) - 1 := by rw [IntKind.wrap_u64]; omega
  have hln := fun w' => len_any ((n : Int) - 1) w' (by omega) (by omega)
  have hbl : Lib.bitLen ((n : Int) - 1).toNat = e + 1 := by rw [show ((n : Int) - 1).toNat = n - 1 by omega]; exact he
  rw [hbl] at hln
  go_enter Try.func32, Try.ntmps32
  go_wp2_with fail
  refine (hln _).mono ?_
  rintro e' w' ⟨rfl, rfl⟩
  have wk : RowKit.wrap64 ((2 : Int) ^ e) = (kOf n : Int) := by
    have h1 : (2 : Int) ^ e = ((2 ^ e : Nat) : Int) := by simp
    have h2 := Nat.pow_le_pow_right (n := 2) (by omega) he20
    rw [h1, ← hke]; unfold RowKit.wrap64; rw [← hke] at h2; omega
  replace hke : Hid _ := hke
  clear he
  go_wp2_with fail
  rw [wk]
  go_ret
  simp
set_option maxHeartbeats 4000000 in
theorem rhalf_any (n : Nat) (w : World) (h : 2 ≤ n) (hn : n ≤ 1048576) :
    Calls Try.prog 34 #[.int .i64 n] w fun e w' => e = .returned (.int .i64 (kOf n)) ∧ w = w' := by
  go_enter Try.func34, Try.ntmps34
  go_wp2_with fail
  go_loopw [3] (fun q wr => ∃ j k : Nat, k = 2 ^ j ∧ k < n ∧ q = .int .i64 k ∧ wr = w) (fun q _ => n - (intOf q).toNat)
  case atStart => exact ⟨0, 1, by decide, by omega, by simp, by rfl⟩
  case round =>
    obtain ⟨j, k, hj, hk, rfl, rfl⟩ := hrel
    have h0 : 0 < k := by rw [hj]; exact Nat.two_pow_pos _
    have hj2 : 2 * k = 2 ^ (j + 1) := by rw [hj, Nat.pow_succ]; omega
    have hu : n ≤ 2 * k → k = kOf n := fun hc => by rw [hj]; exact kOf_unique h (by omega) (by omega) (by omega)
    replace hj : Hid _ := hj
    replace hj2 : Hid _ := hj2
    by_cases hlt : 2 * k < n
    · go_wp2_with fail
      go_roundw
      case rel => exact ⟨j + 1, 2 * k, hj2.out, hlt, by go_num, by first | rfl | trivial⟩
      case measure => simp [intOf]; omega
    · have := hu (by omega)
      go_wp2_with fail
      go_ret
      exact ⟨by rw [this]; rfl, rfl⟩

/-! ### Lists in new memory -/
def OwT (B : Nat) (w : World) (v : Value) (vs : List Value) : Prop := w.ownsRow B 23 1 v vs.length vs
theorem infoT : (Try.prog.info? 23).map (fun i => (i.zero, i.size, i.bytes)) = some (some (.slice none 0 0), 1, 24) := by kernel_rfl
theorem OwT.nil (B : Nat) (w : World) : OwT B w (.slice none 0 0) [] := World.ownsRow_nil _ _ _ _
theorem OwT.sl {B : Nat} {w : World} {v : Value} {vs : List Value} (h : OwT B w v vs) : Sl w v vs.length vs := sl_of_own h
theorem OwT.below {B : Nat} {w w' : World} {v : Value} {vs : List Value} (h : OwT B w v vs) (hb : Below w.heap.size w w') : OwT B w' v vs := own_below h hb
theorem wpl_apT {w : World} {ops : Array Oper} {rest : List Oper} {o : Oper} {a : Act} {Q : Exit → Act → World → Prop}
    (hg : o.guard = none) (s x : Operand) (hop : o.op = Op.call { callee := Callee.builtin Builtin.append, args := #[s, x], argTypes := #[22, 22] })
    {B : Nat} {v vx : Value} {xs ys : List Value} (hs : a.eval s = v) (hown : OwT B w v xs) (hx : a.eval x = vx) (hsrc : Sl w vx ys.length ys) (h1 : ∀ u ∈ ys, u.oneCell' = true)
    (hlen : xs.length + ys.length ≤ 1099511627776) (hB : B ≤ w.heap.size)
    (hK : ∀ v' w', OwT B w' v' (xs ++ ys) → w.grownBy w' v.ownBlock → Below B w w' → wpList Try.prog ops Q rest (a.put o.dst v') w') : wpList Try.prog ops Q (o :: rest) a w := by
  obtain ⟨A, c, rfl, hc, hcm, hA, hr⟩ := hsrc
  refine wpl_ap_own (size := 1) (bytes := 24) (base := B) w hg s x 22 hop Try.underlying22 infoT rfl (by decide) hs hown ys hx hA hc (by omega) hr h1 (by omega) (by omega) hB ?_
  intro v' w' ho hgr
  refine hK v' w' ?_ hgr (Below.grown (Below.refl _ _) hgr hB (fun k hk => (World.ownsRow.lt hown k hk).1))
  unfold OwT; rw [List.length_append]; exact ho
theorem OwT.ne {B B' : Nat} {w : World} {v u : Value} {vs : List Value} {xs : List UInt8} (h : OwT B w v vs) (k : OwB B' w u xs) : u.ownBlock = none ∨ u.ownBlock ≠ v.ownBlock := by
  rcases h.2 with ⟨e, _⟩ | ⟨g, cap, cur, e, _, hg, _⟩
  · rcases k.2 with ⟨e2, _⟩ | ⟨g2, cap2, cur2, e2, _, hg2, _⟩
    · left; rw [e2]; rfl
    · right; rw [e2, e]; simp [Value.ownBlock]
  · rcases k.2 with ⟨e2, _⟩ | ⟨g2, cap2, cur2, e2, _, hg2, _⟩
    · left; rw [e2]; rfl
    · right
      rw [e2, e]
      simp only [Value.ownBlock, ne_eq, Option.some.injEq]
      intro hc
      rw [hc, hg] at hg2
      simp at hg2
theorem OwB.one {B : Nat} {w : World} {v : Value} {xs : List UInt8} (h : OwB B w v xs) : v.oneCell' = true := by
  rcases h.2 with ⟨e, _⟩ | ⟨g, cap, cur, e, _⟩ <;> rw [e] <;> rfl
/-- Own texts, in order. -/
def Xs (B : Nat) (w : World) (vs : List Value) (zs : List (List UInt8)) : Prop := vs.length = zs.length ∧ ∀ (i : Nat) u x, vs[i]? = some u → zs[i]? = some x → OwB B w u x
theorem Xs.below {B : Nat} {w w' : World} {vs : List Value} {zs : List (List UInt8)} (h : Xs B w vs zs) (hb : Below w.heap.size w w') : Xs B w' vs zs := ⟨h.1, fun i u x hu hx => (h.2 i u x hu hx).below hb⟩
theorem Xs.snoc {B : Nat} {w : World} {vs : List Value} {zs : List (List UInt8)} {u : Value} {x : List UInt8} (h : Xs B w vs zs) (hu : OwB B w u x) : Xs B w (vs ++ [u]) (zs ++ [x]) := by
  refine ⟨by simp [h.1], fun i u' x' h1 h2 => ?_⟩
  by_cases hi : i < vs.length
  · rw [List.getElem?_append_left hi] at h1
    rw [List.getElem?_append_left (by rw [← h.1]; exact hi)] at h2
    exact h.2 i u' x' h1 h2
  · have hl := (List.getElem?_eq_some_iff.1 h1).1
    have : i = vs.length := by simp at hl; omega
    subst this
    rw [List.getElem?_append_right (Nat.le_refl _), Nat.sub_self] at h1
    rw [h.1, List.getElem?_append_right (Nat.le_refl _), Nat.sub_self] at h2
    simp at h1 h2
    subst h1; subst h2
    exact hu
/-- What another row's growing leaves. -/
theorem Xs.kept {B : Nat} {w w' : World} {vs ws : List Value} {zs : List (List UInt8)} {v : Value} (h : Xs B w vs zs) (ho : OwT B w v ws) (hg : w.grownBy w' v.ownBlock) : Xs B w' vs zs :=
  ⟨h.1, fun i u x hu hx => World.ownsRow.kept (h.2 i u x hu hx) hg (ho.ne (h.2 i u x hu hx))⟩
theorem Xs.slX {B : Nat} {w : World} {v : Value} {vs : List Value} {zs : List (List UInt8)} (h : Xs B w vs zs) (ho : OwT B w v vs) : SlX w v zs := SlX.of ho.sl h.1 fun i u x hu hx => (h.2 i u x hu hx).sl
set_option maxHeartbeats 4000000 in
theorem own_any (v : Value) (zs : List (List UInt8)) (w : World) (hv : SlX w v zs) (hl : zs.length ≤ 1048576) (hz : ∀ z ∈ zs, z.length ≤ 1073741824) :
    Calls Try.prog 11 #[v] w fun e w' => ∃ v', e = .returned v' ∧ SlX w' v' zs ∧ Below w.heap.size w w' := by
  obtain ⟨A, c, rfl, hc, hcm⟩ := hv.len
  go_enter Try.func11, Try.ntmps11
  go_wp2_with fail
  go_loopw [3, 4] (fun o i wr => ∃ (k : Nat) (vs : List Value), k ≤ zs.length ∧ i = .int .i64 k ∧ OwT w.heap.size wr o vs ∧ Xs w.heap.size wr vs (zs.take k) ∧ Below w.heap.size w wr) (fun _ i _ => zs.length - (intOf i).toNat)
  case atStart => exact ⟨0, [], by omega, rfl, OwT.nil _ _, ⟨rfl, fun i u x h => by simp at h⟩, Below.refl _ _⟩
  case round =>
    obtain ⟨k, vs, hk, rfl, ho, hx, bw⟩ := hrel
    by_cases hlt : k < zs.length
    · obtain ⟨ad, u, rfl, hcell, hu, hone⟩ := (hv.below bw).get hlt
      have htk : zs.take (k + 1) = zs.take k ++ [zs.getD k []] := by rw [List.take_succ_eq_append_getElem hlt]; simp [hlt]
      have hzl := hz (zs.getD k []) (by simp [hlt])
      have hlv : vs.length = k := by have := hx.1; simp at this; omega
      generalize hpre : zs.take k = pre at *
      generalize zs.getD k [] = z at *
      replace htk : Hid _ := htk
      replace hpre : Hid _ := hpre
      replace hlv : Hid _ := hlv
      go_wp2_with (at_builtin; go_loud (refine wpl_cpB rfl _ _ rfl rfl rfl hu (by omega) ?_))
      intro u5 w5 h5 b5
      have z5 := bw.size
      have ho5 := ho.below b5
      have hx5 := (hx.below b5).snoc (h5.mono z5)
      have bw5 := Below.trans bw (b5.mono z5)
      obtain ⟨A5, c5, rfl, _⟩ := h5.sl
      have e6 := ext_alloc w5 (.cells #[.slice A5 z.length c5] 23)
      have ho6 := ho5.below e6
      have hx6 := hx5.below e6
      have s6 : Sl (w5.alloc (.cells #[.slice A5 z.length c5] 23)) (.slice (some ⟨w5.heap.size, 0, none⟩) 1 1) 1 [.slice A5 z.length c5] := ⟨_, _, rfl, by omega, by omega, by simp, rc_new _ [.slice A5 z.length c5] _⟩
      have bw6 := Below.trans bw5 (e6.mono bw5.size)
      have z6 := bw6.size
      clear ho ho5 hx hx5 b5 e6 bw5 hcell hu
      go_wp2_with (at_builtin; go_loud (refine wpl_apT (B := w.heap.size) (ys := [.slice A5 z.length c5]) rfl _ _ rfl rfl ho6 rfl s6 (by intro q hq; rw [List.mem_singleton.1 hq]; rfl) (by rw [hlv.out]; simp; omega) z6 ?_))
      intro v7 w7 h7 g7 b7
      have hx7 := hx6.kept ho6 g7
      go_wp2_with fail
      go_roundw
      case rel => exact ⟨k + 1, vs ++ [.slice A5 z.length c5], by omega, by go_num, h7, by rw [htk.out]; exact hx7, Below.trans bw6 b7⟩
      case measure => simp [intOf]; omega
    · obtain rfl : k = zs.length := by omega
      rw [List.take_length] at hx
      go_wp2_with fail
      go_ret
      exact ⟨_, rfl, hx.slX ho, bw⟩
end Go.Proofs.Ytnpbapefjbfndaa

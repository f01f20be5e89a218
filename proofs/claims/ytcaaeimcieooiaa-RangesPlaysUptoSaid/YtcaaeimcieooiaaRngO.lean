/- The reference: New, From (walks). -/
import Derived.Test.YtcaaeimcieooiaaRngN
import Derived.Test.YtcaaeimcieooiaaRl
set_option linter.unusedVariables false
set_option linter.unusedSimpArgs false
set_option maxRecDepth 10000
namespace Go.Proofs.Ytcaaeimcieooiaa
open Go.RowKit
attribute [local go_sem high] dg_cells guard_dg pt_cells

/-- The sizes of the whole parts, from the greatest on. -/
def topN : Nat → Nat → List Nat
  | 0, _ => []
  | f + 1, n => if 2 ^ f ≤ n then 2 ^ f :: topN f (n - 2 ^ f) else topN f n
theorem low_split : ∀ f s n, n < 2 ^ (f + 1) → lowN (f + 1) s n = if 2 ^ f ≤ n then (s * 2 ^ f) :: lowN f s (n - 2 ^ f) else lowN f s n
  | 0, s, n, h => by
    have : n = 0 ∨ n = 1 := by omega
    rcases this with rfl | rfl <;> simp [lowN]
  | f + 1, s, n, h => by
    have h2 : n / 2 < 2 ^ (f + 1) := by rw [Nat.pow_succ] at h; omega
    have e1 : lowN (f + 1 + 1) s n = lowN (f + 1) (2 * s) (n / 2) ++ (if n % 2 = 1 then [s] else []) := rfl
    rw [e1, low_split f (2 * s) (n / 2) h2]
    have hp : 2 ^ (f + 1) = 2 * 2 ^ f := by rw [Nat.pow_succ]; omega
    by_cases hc : 2 ^ (f + 1) ≤ n
    · rw [if_pos hc, if_pos (by omega)]
      have e2 : lowN (f + 1) s (n - 2 ^ (f + 1)) = lowN f (2 * s) ((n - 2 ^ (f + 1)) / 2) ++ (if (n - 2 ^ (f + 1)) % 2 = 1 then [s] else []) := rfl
      rw [e2, show (n - 2 ^ (f + 1)) / 2 = n / 2 - 2 ^ f by omega, show (n - 2 ^ (f + 1)) % 2 = n % 2 by omega, List.cons_append]
      congr 1
      rw [hp, Nat.mul_comm 2 s, Nat.mul_assoc]
    · rw [if_neg hc, if_neg (by omega)]
      rfl
theorem low_top : ∀ f n, n < 2 ^ f → lowN f 1 n = topN f n
  | 0, n, h => rfl
  | f + 1, n, h => by
    have hp : 2 ^ (f + 1) = 2 * 2 ^ f := by rw [Nat.pow_succ]; omega
    rw [low_split f 1 n h]
    unfold topN
    split
    · rw [low_top f (n - 2 ^ f) (by omega), Nat.one_mul]
    · rw [low_top f n (by omega)]
theorem top_le : ∀ f n, ∀ y ∈ topN f n, y ≤ n
  | 0, n, y, h => by cases h
  | f + 1, n, y, h => by
    unfold topN at h
    split at h
    · rcases List.mem_cons.1 h with rfl | h
      · assumption
      · exact Nat.le_trans (top_le f (n - 2 ^ f) y h) (Nat.sub_le _ _)
    · exact top_le f n y h
/-- The loop's variable. -/
def pwN (f : Nat) : Nat := if f = 0 then 0 else 2 ^ (f - 1)
theorem pw_half : ∀ f, pwN (f + 1) / 2 = pwN f
  | 0 => rfl
  | f + 1 => by unfold pwN; simp [Nat.pow_succ]
theorem pw_le (f : Nat) (h : f ≤ 21) : pwN f ≤ 1048576 := by
  unfold pwN; split
  · omega
  · have := Nat.pow_le_pow_right (n := 2) (by decide) (show f - 1 ≤ 20 by omega)
    omega
theorem zip_snoc {α : Type} : ∀ (dn : List Nat) (ds : List α) (x : Nat) (y : α), dn.length < ds.length → ds[dn.length]? = some y → (dn ++ [x]).zip ds = dn.zip ds ++ [(x, y)]
  | [], [], _, _, h, _ => by simp at h
  | [], d :: ds, x, y, _, e => by simp at e; subst e; simp
  | a :: dn, [], _, _, h, _ => by simp at h
  | a :: dn, d :: ds, x, y, h, e => by
    rw [List.cons_append, List.zip_cons_cons, List.zip_cons_cons, List.cons_append, zip_snoc dn ds x y (by simpa using h) (by simpa using e)]
/-- The parts of a range of n leaves with these heads. -/
def partsN (n : Nat) (ds : List (List UInt8)) : List PartL := (lowN 21 1 n).zip ds
/-- Block p holds a range of the reference. -/
structure RrH (B : Nat) (w : World) (p n : Nat) (v : Value) (ps : List PartL) : Prop where
  at_ : RrAt w p n v
  own : OwP B w v ps
  ge : B ≤ p
theorem RrH.lt {B : Nat} {w : World} {p n : Nat} {v : Value} {ps : List PartL} (h : RrH B w p n v ps) : p < w.heap.size := h.at_.lt
theorem RrH.below {B : Nat} {w w' : World} {p n : Nat} {v : Value} {ps : List PartL} (h : RrH B w p n v ps) (hb : Below w.heap.size w w') : RrH B w' p n v ps := ⟨h.at_.below hb, h.own.below hb, h.ge⟩
theorem RrH.but {S : Nat → Prop} {B : Nat} {w w' : World} {p n : Nat} {v : Value} {ps : List PartL} (h : RrH B w p n v ps) (b : But S w w') (hp : ¬ S p) (hv : ∀ k, v.ownBlock = some k → ¬ S k) : RrH B w' p n v ps :=
  ⟨(b.block p h.lt hp).trans h.at_, h.own.but b hv, h.ge⟩
theorem rr_new (w : World) : Calls Try.prog 6 #[] w fun e w' => ∃ p, e = .returned (ptr p) ∧ RrH w.heap.size w' p 0 (.slice none 0 0) [] ∧ Below w.heap.size w w' := by
  have b := ext_alloc w (.cells #[.int .u64 0, .slice none 0 0] 54 (0, 0))
  have h : RrAt _ w.heap.size 0 (.slice none 0 0) := heap_alloc_new w (.cells #[.int .u64 0, .slice none 0 0] 54 (0, 0))
  go_enter Try.func6, Try.ntmps6
  go_wp2_with fail
  go_ret
  exact ⟨_, rfl, ⟨h, OwP.nil _ _, Nat.le_refl _⟩, b⟩
theorem rr_from_big (A : Option Addr) (n c : Nat) (w : World) (size : Nat) (h : 1048576 < size) :
    Calls Try.prog 15 #[.slice A n c, .int .u64 (size : Int)] w fun e w' => e = .returned (.tuple #[.pointer none, .int .i64 1]) ∧ w = w' := by
  have d1 : decide ((1048576 : Int) < size) = true := decide_eq_true (by omega)
  have d2 : decide (1048576 < size) = true := decide_eq_true h
  go_enter Try.func15, Try.ntmps15
  go_wp2_with fail
  go_ret2
  exact ⟨rfl, rfl⟩
set_option maxHeartbeats 8000000 in
theorem rr_from (v : Value) (ds : List (List UInt8)) (w : World) (size : Nat) (h : SlD w v ds) (hs : size ≤ 1048576) (hl : ds.length ≤ 2097152) :
    Calls Try.prog 15 #[v, .int .u64 (size : Int)] w fun e w' => Below w.heap.size w w' ∧
      ((ds.length = popN 21 size ∧ ∃ p v', e = .returned (.tuple #[ptr p, .int .i64 0]) ∧ RrH w.heap.size w' p size v' (partsN size ds)) ∨ (ds.length ≠ popN 21 size ∧ e = .returned (.tuple #[.pointer none, .int .i64 1]))) := by
  have h32 := h.2
  obtain ⟨⟨A, c, rfl, _⟩, _⟩ := id h
  have d1 : decide ((1048576 : Int) < size) = false := decide_eq_false (by omega)
  have d2 : decide (1048576 < size) = false := decide_eq_false (by omega)
  have e1 := ext_alloc w (.cells #[.int .u64 (size : Int), .slice none 0 0] 54 (0, 0))
  have hR : RrAt (w.alloc (.cells #[.int .u64 (size : Int), .slice none 0 0] 54 (0, 0))) w.heap.size size (.slice none 0 0) := heap_alloc_new w _
  obtain ⟨W, hW⟩ : ∃ W, w.alloc (.cells #[.int .u64 (size : Int), .slice none 0 0] 54 (0, 0)) = W := ⟨_, rfl⟩
  rw [hW] at e1 hR
  have hpop : (topN 21 size).length = popN 21 size := by rw [← low_top 21 size (by omega), lowN_length]
  have hlt : lowN 21 1 size = topN 21 size := low_top 21 size (by omega)
  go_enter Try.func15, Try.ntmps15
  go_wp2_with fail
  try rw [hW]
  clear hW d1 d2
  replace hpop : Hid _ := hpop
  replace hlt : Hid _ := hlt
  go_loopw [7, 8] (fun s7 s8 wr => ∃ (f left : Nat) (dn : List Nat) (v1 : Value), s7 = .int .u64 (left : Int) ∧ s8 = .int .u64 (pwN f : Int) ∧ f ≤ 21 ∧ Hid (left < 2 ^ f) ∧ left ≤ size ∧
      Hid (dn ++ topN f left = topN 21 size) ∧ dn.length ≤ ds.length ∧ RrAt wr w.heap.size size v1 ∧ OwP (w.heap.size + 1) wr v1 (dn.zip ds) ∧ Below w.heap.size w wr) (fun _ s8 _ => (intOf s8).toNat)
  case atStart => exact ⟨21, size, [], _, rfl, by rfl, Nat.le_refl _, by unfold Hid; omega, Nat.le_refl _, rfl, Nat.zero_le _, hR, OwP.nil _ _, e1⟩
  case round =>
    obtain ⟨f, left, dn, v1, rfl, rfl, hf, hleft, hls, hdn, hdl, hA, hO, hb⟩ := hrel
    have hzl : (dn.zip ds).length = dn.length := by rw [List.length_zip]; omega
    have hsl := hO.sl
    obtain ⟨⟨A1, c1, rfl, hc1, hcm1, _⟩, _⟩ := id hsl
    rw [hzl] at hO hsl hA hc1
    clear hzl
    have g1 := hA.c1.1
    cases f with
    | zero =>
      have hp0 : pwN 0 = 0 := rfl
      rw [hp0]
      have hdp : dn.length = popN 21 size := by
        rw [← hpop.out, ← hdn.out]; show dn.length = (dn ++ []).length; simp
      have hdt : dn = topN 21 size := by rw [← hdn.out]; show dn = dn ++ []; simp
      clear hdn hleft
      replace hdp : Hid _ := hdp
      replace hdt : Hid _ := hdt
      by_cases hq : dn.length = ds.length
      · have q1 : ((dn.length : Int) != ds.length) = false := by rw [hq]; simp
        replace hq : Hid _ := hq
        go_wp2_with fail
        go_ret2
        refine ⟨hb, .inl ⟨by rw [← hq.out]; exact hdp.out, _, _, rfl, hA, ?_, Nat.le_refl _⟩⟩
        unfold partsN
        rw [hlt.out, ← hdt.out]
        exact hO.mono (by omega)
      · have q1 : ((dn.length : Int) != ds.length) = true := by simp; omega
        go_wp2_with fail
        go_ret2
        exact ⟨hb, .inr ⟨fun e => hq (by rw [e]; exact hdp.out), rfl⟩⟩
    | succ f =>
      have hp1 : pwN (f + 1) = 2 ^ f := by unfold pwN; rw [if_neg (by omega)]; rfl
      have hpw := pw_half f
      have hple := pw_le (f + 1) hf
      have hpp := Nat.two_pow_pos f
      have htop : topN (f + 1) left = if 2 ^ f ≤ left then 2 ^ f :: topN f (left - 2 ^ f) else topN f left := rfl
      rw [hp1] at hpw hple ⊢
      have hl2 : left < 2 * 2 ^ f := by have := hleft.out; rw [Nat.pow_succ] at this; omega
      generalize hP : 2 ^ f = P at *
      have hdiv : ((P : Int) / 2) = (pwN f : Int) := by rw [← hpw]; simp
      have p0 : (0 : Int) < P := by omega
      by_cases hc : left < P
      · rw [if_neg (by omega)] at htop
        have l1 : (left : Int) < P := by omega
        replace hdiv : Hid _ := hdiv
        clear hpw
        go_wp2_with fail
        go_roundw
        case rel => exact ⟨f, left, dn, _, rfl, by rw [hdiv.out], by omega, by unfold Hid; rw [hP]; exact hc, hls, by unfold Hid; rw [← htop]; exact hdn.out, hdl, hA, hO, hb⟩
        case measure => simp [intOf]; omega
      · rw [if_pos (by omega)] at htop
        have l1 : (P : Int) ≤ left := by omega
        have hsub : Hid ((left : Int) - P = ((left - P : Nat) : Int)) := by unfold Hid; omega
        have hws : IntKind.u64.wrap ((left : Int) - P) = (left : Int) - P := by rw [IntKind.wrap_u64]; omega
        replace hdiv : Hid _ := hdiv
        replace htop : Hid _ := htop
        clear hpw
        by_cases hq : dn.length = ds.length
        · have q1 : ((dn.length : Int) == ds.length) = true := by rw [hq]; simp
          replace hq : Hid _ := hq
          go_wp2_with fail
          go_ret2
          refine ⟨hb, .inr ⟨fun e => ?_, rfl⟩⟩
          have h1 := hpop.out
          rw [← hdn.out, htop.out, List.length_append, List.length_cons] at h1
          have h2 := hq.out
          omega
        · have q1 : ((dn.length : Int) == ds.length) = false := by rw [beq_eq_false_iff_ne]; omega
          have hlk : dn.length < ds.length := by omega
          have hdg := List.getElem?_eq_getElem hlk
          have hrd := fun w' (hw : Below w.heap.size w w') => (h.below hw).get hlk
          have hd32 : (ds.getD dn.length []).length = 32 := by apply h32; simp [hlk]
          have hzs := zip_snoc dn ds P (ds.getD dn.length []) hlk (by simp [hlk])
          obtain ⟨ad, rfl, _⟩ := hrd w (Below.refl _ _)
          have gd : ∀ w', Below w.heap.size w w' → RdB w' (some (ad.add (dn.length * 32))) (ds.getD dn.length []) := fun w' hw => by
            obtain ⟨_, e, hh⟩ := hrd w' hw
            cases e; exact hh
          have hpl : (dn ++ [P]).length = dn.length + 1 := by simp
          replace hdn : Hid ((dn ++ [P]) ++ topN f (left - P) = topN 21 size) := by unfold Hid; rw [List.append_assoc, List.singleton_append, ← htop.out]; exact hdn.out
          clear hrd hdg htop hq
          generalize ds.getD dn.length [] = d at *
          generalize hdn2 : dn ++ [P] = dn2 at *
          generalize hzz : dn2.zip ds = zz at *
          generalize hk : dn.length = k at *
          have k1 : (k : Int) < ds.length := by omega
          have k0 : (0 : Int) ≤ k := by omega
          replace hzs : Hid _ := hzs
          replace hpl : Hid _ := hpl
          replace hdn2 : Hid _ := hdn2
          replace hzz : Hid _ := hzz
          replace hk : Hid _ := hk
          go_wp2_with fail
          rw [hsub.out]
          have e1 := ext_alloc wr.drew (.cells (ptC P d).toArray 60 (0, 0))
          have e2 := Ext.trans (ext_drew wr) e1
          have hO1 := hO.below e2
          have hA1 := hA.below e2
          have hb1 := Below.trans hb (e2.mono hb.size)
          have hsrc := slP_one wr.drew P d 60 hd32
          have hzlt := hA1.lt
          have hnz : (Value.slice A1 k c1).ownBlock ≠ some w.heap.size := fun e => by have := (hO.lt _ e).1; omega
          have hmz : Hid ((dn.zip ds).length = k) := by unfold Hid; rw [List.length_zip, hk.out]; omega
          have hzk : (dn.zip ds).length + 1 ≤ 1099511627776 := by rw [List.length_zip, hk.out]; omega
          have hS : RrAt wr.drew w.heap.size size (.slice A1 k c1) ∧ Below w.heap.size w wr.drew := ⟨hA.below (ext_drew _), hb.drew⟩
          refine wp_region_L (fun w' => RrAt w' w.heap.size size (.slice A1 k c1) ∧ Below w.heap.size w w') [16, 19] (by kernel_rfl) (fun hcl => ?_)
          refine wpAnyL_pure (i := 0) (v := ?_) hcl (some 33) rfl rfl (by kernel_rfl) (by kernel_rfl) (by kernel_rfl) (fun _ _ _ h => h) ?_ (fun hcl => ?_)
          rotate_left 1
          · (refine Or.inl ⟨by rfl, ?_⟩; intro w' hw'; (try go_simp); (try rfl); done)
          try simp only [Act.put, List.setIfInBounds_toArray, List.set_cons_zero, List.set_cons_succ]
          refine wpAnyL_take (i := 1) (v := ?_) hcl hS (some 34) rfl rfl (by kernel_rfl) (by kernel_rfl) (by kernel_rfl) (fun _ _ _ h => h) (by kernel_rfl) ?_ (fun hcl => ?_)
          rotate_left 1
          · (refine Or.inl ⟨by rfl, ?_⟩; intro w' hw'; (try go_simp); (try rfl); done)
          try simp only [Act.put, List.setIfInBounds_toArray, List.set_cons_zero, List.set_cons_succ]
          refine wpAnyL_take (i := 2) (v := ?_) hcl hS (some 35) rfl rfl (by kernel_rfl) (by kernel_rfl) (by kernel_rfl) (fun _ _ _ h => h) (by kernel_rfl) ?_ (fun hcl => ?_)
          rotate_left 1
          · (refine Or.inl ⟨by rfl, ?_⟩; intro w' hw'; (try go_simp); (try rfl); done)
          try simp only [Act.put, List.setIfInBounds_toArray, List.set_cons_zero, List.set_cons_succ]
          refine wpAnyL_take (i := 3) (v := ?_) hcl hS (some 36) rfl rfl (by kernel_rfl) (by kernel_rfl) (by kernel_rfl) (fun _ _ _ h => h) (by kernel_rfl) ?_ (fun hcl => ?_)
          rotate_left 1
          · (refine Or.inl ⟨by rfl, ?_⟩; intro w' hw'; (try go_simp); (try rfl); done)
          try simp only [Act.put, List.setIfInBounds_toArray, List.set_cons_zero, List.set_cons_succ]
          refine wpAnyL_take (i := 4) (v := ?_) hcl hS (some 37) rfl rfl (by kernel_rfl) (by kernel_rfl) (by kernel_rfl) (fun _ _ _ h => h) (by kernel_rfl) ?_ (fun hcl => ?_)
          rotate_left 1
          · (refine Or.inl ⟨by rfl, ?_⟩; intro w' hw'; have hcl := hw'.1.c1.1; (try go_simp); (try rfl); done)
          try simp only [Act.put, List.setIfInBounds_toArray, List.set_cons_zero, List.set_cons_succ]
          refine wpAnyL_take (i := 5) (v := ?_) hcl hS (some 38) rfl rfl (by kernel_rfl) (by kernel_rfl) (by kernel_rfl) (fun _ _ _ h => h) (by kernel_rfl) ?_ (fun hcl => ?_)
          rotate_left 1
          · (refine Or.inl ⟨by rfl, ?_⟩; intro w' hw'; (try go_simp); (try rfl); done)
          try simp only [Act.put, List.setIfInBounds_toArray, List.set_cons_zero, List.set_cons_succ]
          refine wpAnyL_take (i := 6) (v := ?_) hcl hS (some 39) rfl rfl (by kernel_rfl) (by kernel_rfl) (by kernel_rfl) (fun _ _ _ h => h) (by kernel_rfl) ?_ (fun hcl => ?_)
          rotate_left 1
          · (refine Or.inl ⟨by rfl, ?_⟩; intro w' hw'; (try go_simp); (try rfl); done)
          try simp only [Act.put, List.setIfInBounds_toArray, List.set_cons_zero, List.set_cons_succ]
          refine wpAnyL_take (i := 7) (v := ?_) hcl hS (some 40) rfl rfl (by kernel_rfl) (by kernel_rfl) (by kernel_rfl) (fun _ _ _ h => h) (by kernel_rfl) ?_ (fun hcl => ?_)
          rotate_left 1
          · (refine Or.inl ⟨by rfl, ?_⟩; intro w' hw'; (try go_simp); (try rfl); done)
          try simp only [Act.put, List.setIfInBounds_toArray, List.set_cons_zero, List.set_cons_succ]
          refine wpAnyL_take (i := 8) (v := ?_) hcl hS (some 41) rfl rfl (by kernel_rfl) (by kernel_rfl) (by kernel_rfl) (fun _ _ _ h => h) (by kernel_rfl) ?_ (fun hcl => ?_)
          rotate_left 1
          · (refine Or.inl ⟨by rfl, ?_⟩; intro w' hw'; (try go_simp); (try rfl); done)
          try simp only [Act.put, List.setIfInBounds_toArray, List.set_cons_zero, List.set_cons_succ]
          refine wpAnyL_take (i := 9) (v := ?_) hcl hS (some 42) rfl rfl (by kernel_rfl) (by kernel_rfl) (by kernel_rfl) (fun _ _ _ h => h) (by kernel_rfl) ?_ (fun hcl => ?_)
          rotate_left 1
          · (refine Or.inl ⟨by rfl, ?_⟩; intro w' hw'; (try go_simp); (try rfl); done)
          try simp only [Act.put, List.setIfInBounds_toArray, List.set_cons_zero, List.set_cons_succ]
          refine wpAnyL_take (i := 10) (v := ?_) hcl hS (some 43) rfl rfl (by kernel_rfl) (by kernel_rfl) (by kernel_rfl) (fun _ _ _ h => h) (by kernel_rfl) ?_ (fun hcl => ?_)
          rotate_left 1
          · (refine Or.inl ⟨by rfl, ?_⟩; intro w' hw'; have hcl := hw'.1.c1.1; (try go_simp); (try rfl); done)
          try simp only [Act.put, List.setIfInBounds_toArray, List.set_cons_zero, List.set_cons_succ]
          refine wpAnyL_take (i := 11) (v := ?_) hcl hS (some 44) rfl rfl (by kernel_rfl) (by kernel_rfl) (by kernel_rfl) (fun _ _ _ h => h) (by kernel_rfl) ?_ (fun hcl => ?_)
          rotate_left 1
          · (refine Or.inl ⟨by rfl, ?_⟩; intro w' hw'; (try go_simp); (try rfl); done)
          try simp only [Act.put, List.setIfInBounds_toArray, List.set_cons_zero, List.set_cons_succ]
          refine wpAnyL_take (i := 12) (v := ?_) hcl hS (some 45) rfl rfl (by kernel_rfl) (by kernel_rfl) (by kernel_rfl) (fun _ _ _ h => h) (by kernel_rfl) ?_ (fun hcl => ?_)
          rotate_left 1
          · (refine Or.inl ⟨by rfl, ?_⟩; intro w' hw'; (try go_simp); (try rfl); done)
          try simp only [Act.put, List.setIfInBounds_toArray, List.set_cons_zero, List.set_cons_succ]
          refine wpAnyL_take (i := 13) (v := ?_) hcl hS (some 46) rfl rfl (by kernel_rfl) (by kernel_rfl) (by kernel_rfl) (fun _ _ _ h => h) (by kernel_rfl) ?_ (fun hcl => ?_)
          rotate_left 1
          · (refine Or.inl ⟨by rfl, ?_⟩; intro w' hw'; (refine arr_dg.exAt (gd _ hw'.2) hd32 (.tmp 45) ?_ ?_ <;> rfl))
          try simp only [Act.put, List.setIfInBounds_toArray, List.set_cons_zero, List.set_cons_succ]
          refine wpAnyL_take (i := 14) (v := ?_) hcl hS (some 47) rfl rfl (by kernel_rfl) (by kernel_rfl) (by kernel_rfl) (fun _ _ _ h => h) (by kernel_rfl) ?_ (fun hcl => ?_)
          rotate_left 1
          · (refine Or.inl ⟨by rfl, ?_⟩; intro w' hw'; (refine ex_pt (n := P) hd32 (.tmp 38) (.tmp 46) ?_ ?_ ?_ <;> rfl))
          try simp only [Act.put, List.setIfInBounds_toArray, List.set_cons_zero, List.set_cons_succ]
          refine wpAnyL_one (i := 15) hcl rfl (by kernel_rfl) (by rfl) (fun hcl K hK => ?_)
          refine wp_bP (n := P) hd32 _ rfl rfl ?_
          have hb : RrAt (wr.drew.alloc (.cells (ptC P d).toArray 60 (0, 0))) w.heap.size size (.slice A1 k c1) ∧ Below w.heap.size w (wr.drew.alloc (.cells (ptC P d).toArray 60 (0, 0))) := ⟨hA1, hb1⟩
          refine hK.out _ _ (fun _ => hb) ?_
          replace hS := hb
          clear hK K hb
          try simp only [Act.put, List.setIfInBounds_toArray, List.set_cons_zero, List.set_cons_succ]
          refine wpAnyL_late (i := 16) hcl rfl (by kernel_rfl) (by rfl) (by kernel_rfl) (fun hcl K hK => ?_)
          refine wp_apP_at _ _ rfl (B := w.heap.size + 1) rfl hO1 rfl hsrc (by simp) (by simpa using hzk) (by omega) ?_; intro gv cv w9 h9 hg9 hat hlt9
          rw [hmz.out, List.length_singleton] at h9 ⊢
          have hA9 : RrAt w9 w.heap.size size (.slice A1 k c1) := (hg9.block _ hzlt (fun e => hnz e.symm)).trans hA1
          have g9 := hA9.c1
          refine hK.out _ _ ?_
          clear hK K
          try simp only [Act.put, List.setIfInBounds_toArray, List.set_cons_zero, List.set_cons_succ]
          refine wpAnyL_pure (i := 17) (v := ?_) hcl (some 50) rfl rfl (by kernel_rfl) (by kernel_rfl) (by kernel_rfl) (fun _ _ _ h => h) ?_ (fun hcl => ?_)
          rotate_left 1
          · (refine Or.inl ⟨by rfl, ?_⟩; intro w' hw'; (try go_simp); (try rfl); done)
          try simp only [Act.put, List.setIfInBounds_toArray, List.set_cons_zero, List.set_cons_succ]
          refine wpAnyL_pure (i := 18) (v := ?_) hcl (some 51) rfl rfl (by kernel_rfl) (by kernel_rfl) (by kernel_rfl) (fun _ _ _ h => h) ?_ (fun hcl => ?_)
          rotate_left 1
          · (refine Or.inl ⟨by rfl, ?_⟩; intro w' hw'; (try go_simp); (try rfl); done)
          try simp only [Act.put, List.setIfInBounds_toArray, List.set_cons_zero, List.set_cons_succ]
          refine wpAnyL_late (i := 19) hcl rfl (by kernel_rfl) (by rfl) (by kernel_rfl) (fun hcl K hK => ?_)
          go_simp
          refine hK.out _ _ ?_
          clear hK K
          try simp only [Act.put, List.setIfInBounds_toArray, List.set_cons_zero, List.set_cons_succ]
          refine wpAnyL_done (by kernel_rfl) ?_ _
          have hb9 := hb1.grown hg9 (by omega) (fun j e => by have := (hO.lt j e).1; omega)
          have hA10 := hA9.set1 (.slice (some ⟨gv, 0, none⟩) (k + 1) cv)
          have hO10 : OwP (w.heap.size + 1) (w9.setCell ⟨w.heap.size, 1, none⟩ (.slice (some ⟨gv, 0, none⟩) (k + 1) cv)) (.slice (some ⟨gv, 0, none⟩) (k + 1) cv) zz := by
            rw [hzs.out]
            exact h9.apart fun j hj => Below.heap_setCell _ _ _ _ (fun e => by have := (h9.lt j hj).1; rw [e] at this; exact absurd this (by show ¬ (w.heap.size + 1 ≤ w.heap.size); omega))
          have hb10 := hb9.setCell (p := ⟨w.heap.size, 1, none⟩) (Nat.le_refl _) (.slice (some ⟨gv, 0, none⟩) (k + 1) cv)
          go_wp2_with fail
          go_roundw
          case rel => exact ⟨f, left - P, dn2, _, rfl, by rw [hdiv.out], by omega, by unfold Hid; rw [hP]; omega, by omega, hdn, by rw [hpl.out]; omega, hA10, by rw [hzz.out]; exact hO10, hb10⟩
          case measure => simp [intOf]; omega
end Go.Proofs.Ytcaaeimcieooiaa

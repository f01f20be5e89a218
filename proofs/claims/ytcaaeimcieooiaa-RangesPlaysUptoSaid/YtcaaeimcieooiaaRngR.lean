/- The reference: Peaks, Root (walks). -/
import Derived.Test.YtcaaeimcieooiaaRngO
import Derived.Test.YtcaaeimcieooiaaMerS
import Derived.Test.YtcaaeimcieooiaaRk
set_option linter.unusedVariables false
set_option linter.unusedSimpArgs false
set_option maxRecDepth 10000
namespace Go.Proofs.Ytcaaeimcieooiaa
open Go.RowKit
attribute [local go_sem high] dg_cells guard_dg pt_cells

theorem parts_get {n : Nat} {ds : List (List UInt8)} (hp : ds.length = popN 21 n) {i : Nat} (hi : i < ds.length) : ((partsN n ds).getD i noP).2 = ds.getD i [] := by
  have hl : (lowN 21 1 n).length = ds.length := by rw [lowN_length, hp]
  unfold partsN
  generalize lowN 21 1 n = l at *
  rw [List.getD_eq_getElem?_getD, List.getElem?_eq_getElem (by rw [List.length_zip]; omega), List.getElem_zip]
  simp [hi]
theorem parts_len {n : Nat} {ds : List (List UInt8)} (hp : ds.length = popN 21 n) : (partsN n ds).length = ds.length := by
  unfold partsN; rw [List.length_zip, lowN_length, ← hp, Nat.min_self]
set_option maxHeartbeats 4000000 in
theorem rr_peaks {B : Nat} {w : World} {p n : Nat} {v : Value} {ds : List (List UInt8)} (h : RrH B w p n v (partsN n ds)) (h32 : All32 ds) (hp : ds.length = popN 21 n) :
    Calls Try.prog 25 #[ptr p] w fun e w' => ∃ v', e = .returned v' ∧ OwD w.heap.size w' v' ds ∧ Below w.heap.size w w' := by
  have hlp := parts_len hp
  have h21 : ds.length ≤ 21 := by rw [hp]; exact pop_le 21 n
  have hsl := h.own.sl
  obtain ⟨⟨A, c, rfl, hc, hcm, _⟩, _⟩ := id hsl
  rw [hlp] at hc
  have hgd := fun i (hi : i < ds.length) => parts_get hp hi
  have hAt := h.at_
  generalize hps : partsN n ds = ps at *
  rw [hlp] at hsl hAt
  clear hps h hp
  replace hlp : Hid _ := hlp
  go_enter Try.func25, Try.ntmps25
  go_wp2_with fail
  go_loopw [3, 4] (fun s3 s4 wr => ∃ (k : Nat) (v3 : Value), k ≤ ds.length ∧ s3 = v3 ∧ s4 = .int .i64 (k : Int) ∧ OwD w.heap.size wr v3 (ds.take k) ∧ Below w.heap.size w wr) (fun _ s4 _ => ds.length - (intOf s4).toNat)
  case atStart => exact ⟨0, _, Nat.zero_le _, rfl, rfl, by simpa using OwD.nil _ _, Below.refl _ _⟩
  case round =>
    obtain ⟨k, v3, hk, rfl, rfl, hO, hb⟩ := hrel
    have c1 := (hAt.below hb).c1.1
    by_cases hlt : k < ds.length
    · obtain ⟨ad, rfl, hrd⟩ := (hsl.below hb).get (i := k) (by rw [hlp.out]; exact hlt)
      have hd := ptC_head hrd
      rw [hgd k hlt] at hd
      have hd32 : (ds.getD k []).length = 32 := by apply h32; simp [hlt]
      have htk : ds.take (k + 1) = ds.take k ++ [ds.getD k []] := by rw [List.take_add_one]; simp [hlt]
      generalize ds.getD k [] = d at *
      have e1 := ext_alloc wr (.cells (bs d).toArray 29 (0, 0))
      have hsrc := slD_one wr d 29 hd32
      have hO1 := hO.below e1
      have l1 : (k : Int) < ds.length := by omega
      have l0 : (0 : Int) ≤ k := by omega
      have hsz := hb.size
      have hle : (ds.take k).length + [d].length ≤ 1099511627776 := by simp; omega
      have hbw : w.heap.size ≤ (wr.alloc (.cells (bs d).toArray 29 (0, 0))).heap.size := by simp; omega
      go_wp2_with (first
        | ((with_reducible refine at_load ?_); refine arr_dg.loadAtL hd (by rfl) hd32 _ rfl rfl ?_)
        | ((with_reducible refine at_bs ?_); refine wpl_bD rfl hd32 _ rfl rfl ?_)
        | (at_builtin; go_loud (refine wpl_apD (B := w.heap.size) rfl _ _ rfl rfl hO1 rfl hsrc hle hbw ?_)))
      intro v6 w6 h6 _ b6
      have b7 := Below.trans hb (Below.trans (e1.mono hsz) b6)
      go_wp2_with fail
      go_roundw
      case rel => exact ⟨k + 1, v6, by omega, rfl, by go_num, by rw [htk]; exact h6, b7⟩
      case measure => simp [intOf]; omega
    · obtain rfl : k = ds.length := by omega
      rw [List.take_of_length_le (Nat.le_refl _)] at hO
      go_wp2_with fail
      go_ret
      exact ⟨_, rfl, hO, hb⟩
theorem zeroD (w : World) : (zeroValue 29).run Try.prog w = .ok (.agg (bs zer).toArray) w :=
  (zero_of_info (P := Try.prog) (t := 29) (v := dg zer) (n := 32) (by kernel_rfl)).1 w
/-- The head behind k rounds. -/
def headK (ds : List (List UInt8)) (k : Nat) : List UInt8 := ((ds.drop (ds.length - 1 - k)).take k).foldr nodeL (ds.getD (ds.length - 1) [])
theorem headK_zero (ds : List (List UInt8)) : headK ds 0 = ds.getD (ds.length - 1) [] := rfl
theorem headK_succ (ds : List (List UInt8)) (k : Nat) (hk : k + 1 < ds.length) : headK ds (k + 1) = nodeL (ds.getD (ds.length - 1 - (k + 1)) []) (headK ds k) := by
  unfold headK
  have e : ds.drop (ds.length - 1 - (k + 1)) = ds.getD (ds.length - 1 - (k + 1)) [] :: ds.drop (ds.length - 1 - k) := by
    rw [List.drop_eq_getElem_cons (by omega), show ds.length - 1 - (k + 1) + 1 = ds.length - 1 - k by omega]
    simp [show ds.length - 1 - (k + 1) < ds.length by omega]
  rw [e, List.take_succ_cons, List.foldr_cons]
theorem headK_all (ds : List (List UInt8)) (h : ds.length ≠ 0) : headK ds (ds.length - 1) = headL ds := by
  unfold headK headL
  rw [if_neg h, Nat.sub_self, List.drop_zero]
theorem headK_length (ds : List (List UInt8)) (h32 : All32 ds) (h : 0 < ds.length) : ∀ k, k < ds.length → (headK ds k).length = 32
  | 0, _ => by rw [headK_zero]; apply h32; simp [show ds.length - 1 < ds.length by omega]
  | k + 1, hk => by rw [headK_succ ds k hk]; exact nodeL_length _ _
set_option maxHeartbeats 8000000 in
theorem rr_root {B : Nat} {w : World} {p n : Nat} {v : Value} {ds : List (List UInt8)} (h : RrH B w p n v (partsN n ds)) (h32 : All32 ds) (hp : ds.length = popN 21 n) :
    Calls Try.prog 26 #[ptr p] w fun e w' => e = .returned (dg (headL ds)) ∧ Below w.heap.size w w' := by
  have hlp := parts_len hp
  have h21 : ds.length ≤ 21 := by rw [hp]; exact pop_le 21 n
  have hsl := h.own.sl
  obtain ⟨⟨A, c, rfl, hc, hcm, _⟩, _⟩ := id hsl
  rw [hlp] at hc
  have hgd := fun i (hi : i < ds.length) => parts_get hp hi
  have hAt := h.at_
  generalize hps : partsN n ds = ps at *
  rw [hlp] at hsl hAt
  clear hps h hp
  replace hlp : Hid _ := hlp
  have r0 : RowT 29 (w.alloc (.cells (bs zer).toArray 29 (0, 0))) w.heap.size zer := heap_alloc_new _ _
  have b0 := ext_alloc w (.cells (bs zer).toArray 29 (0, 0))
  obtain ⟨W, hW⟩ : ∃ W, w.alloc (.cells (bs zer).toArray 29 (0, 0)) = W := ⟨_, rfl⟩
  have zW := size_alloc w (.cells (bs zer).toArray 29 (0, 0))
  rw [hW] at r0 b0 zW
  have c1 := fun o => (hAt.below (ext_alloc w o)).c1.1
  by_cases h0 : ds.length = 0
  · have hd : ds = [] := List.eq_nil_of_length_eq_zero h0
    simp only [h0] at c1
    have hrl : (rootL []).length = 32 := rootL_length 0 [] (Nat.le_refl _) (by simp) (fun d hd => by cases hd)
    go_enter Try.func26, Try.ntmps26
    go_wp2_with fail
    generalize hW2 : World.alloc w _ = W2
    have hWW : W = W2 := by rw [← hW, ← hW2]; rfl
    subst hWW
    clear hW2 hW c1
    refine (rroot_any 0 _ [] W (Nat.le_refl _) (by omega) (slD_nil W)).mono ?_; rintro e w5 ⟨rfl, b5⟩
    have r5 := r0.below b5
    have hret := arr_dg.loadVar (r5.setRow (rootL [])) hrl
    have bz := below_setRow (Below.trans b0 (b5.mono b0.size)) (Nat.le_refl _) (bs (rootL [])).toArray
    go_wp2_with ((with_reducible refine at_store ?_); refine arr_dg.storeL r5 zer_length rfl hrl _ _ rfl rfl rfl ?_)
    exact ret_cell (v := dg (rootL [])) Try.results26 rfl hret rfl ⟨by rw [hd]; rfl, bz⟩
  · obtain ⟨L, hL⟩ : ∃ L, Hid (ds.length = L + 1) := ⟨ds.length - 1, by unfold Hid; omega⟩
    have q1 : ((ds.length : Int) == 0) = false := by rw [beq_eq_false_iff_ne]; omega
    go_enter Try.func26, Try.ntmps26
    go_wp2_with fail
    generalize hW2 : World.alloc w _ = W2
    have hWW : W = W2 := by rw [← hW, ← hW2]; rfl
    subst hWW
    clear hW2 hW c1
    have hw1 : IntKind.i64.wrap ((ds.length : Int) - 1) = (L : Int) := by rw [IntKind.wrap_i64]; have := hL.out; omega
    have hw2 : RowKit.wrap64 ((ds.length : Int) - 1) = (L : Int) := by unfold RowKit.wrap64; have := hL.out; omega
    have l1 : (L : Int) < ds.length := by have := hL.out; omega
    have l0 : (0 : Int) ≤ L := by omega
    obtain ⟨ad, rfl, _⟩ := hsl.get (i := L) (by rw [hlp.out, hL.out]; omega)
    have gp : ∀ i, i < ds.length → ∀ w', Below w.heap.size w w' → RdB w' (some ((ad.add (i * 33)).add 1)) (ds.getD i []) := fun i hi w' hw => by
      obtain ⟨_, e, hh⟩ := (hsl.below hw).get (i := i) (by rw [hlp.out]; exact hi)
      cases e
      have := ptC_head hh
      rwa [hgd i hi] at this
    have hg32 : ∀ i, i < ds.length → (ds.getD i []).length = 32 := fun i hi => by apply h32; simp [hi]
    have hdL := hg32 L (by have := hL.out; omega)
    have gL := gp L (by have := hL.out; omega)
    have e1 := ext_alloc W.drew (.cells (bs (ds.getD L [])).toArray 29 (0, 0))
    have hrow : RowT 29 (W.drew.alloc (.cells (bs (ds.getD L [])).toArray 29 (0, 0))) (w.heap.size + 1) (ds.getD L []) := by
      have := heap_alloc_new W.drew (.cells (bs (ds.getD L [])).toArray 29 (0, 0))
      rw [show W.drew.heap.size = w.heap.size + 1 from zW] at this; exact this
    have r1 := r0.below (Ext.trans (ext_drew W) e1)
    have b1 := Below.trans b0 ((Ext.trans (ext_drew W) e1).mono b0.size)
    have hk0 : headK ds 0 = ds.getD L [] := by rw [headK_zero, hL.out]; rfl
    generalize ds.getD L [] = d at *
    have hS : Below w.heap.size w W.drew := b0.drew
    refine wp_region_L (fun w' => Below w.heap.size w w') [14] (by kernel_rfl) (fun hcl => ?_)
    refine wpAnyL_take (i := 0) (v := ?_) hcl hS (some 12) rfl rfl (by kernel_rfl) (by kernel_rfl) (by kernel_rfl) (fun _ _ _ h => h) (by kernel_rfl) ?_ (fun hcl => ?_)
    rotate_left 1
    · (refine Or.inl ⟨by rfl, ?_⟩; intro w' hw'; (try go_simp); (try rfl); done)
    try simp only [Act.put, List.setIfInBounds_toArray, List.set_cons_zero, List.set_cons_succ]
    refine wpAnyL_take (i := 1) (v := ?_) hcl hS (some 13) rfl rfl (by kernel_rfl) (by kernel_rfl) (by kernel_rfl) (fun _ _ _ h => h) (by kernel_rfl) ?_ (fun hcl => ?_)
    rotate_left 1
    · (refine Or.inl ⟨by rfl, ?_⟩; intro w' hw'; (try go_simp); (try rfl); done)
    try simp only [Act.put, List.setIfInBounds_toArray, List.set_cons_zero, List.set_cons_succ]
    refine wpAnyL_take (i := 2) (v := ?_) hcl hS (some 14) rfl rfl (by kernel_rfl) (by kernel_rfl) (by kernel_rfl) (fun _ _ _ h => h) (by kernel_rfl) ?_ (fun hcl => ?_)
    rotate_left 1
    · (refine Or.inl ⟨by rfl, ?_⟩; intro w' hw'; (try go_simp); (try rfl); done)
    try simp only [Act.put, List.setIfInBounds_toArray, List.set_cons_zero, List.set_cons_succ]
    refine wpAnyL_take (i := 3) (v := ?_) hcl hS (some 15) rfl rfl (by kernel_rfl) (by kernel_rfl) (by kernel_rfl) (fun _ _ _ h => h) (by kernel_rfl) ?_ (fun hcl => ?_)
    rotate_left 1
    · (refine Or.inl ⟨by rfl, ?_⟩; intro w' hw'; have hcl := (hAt.below hw').c1.1; (try go_simp); (try rfl); done)
    try simp only [Act.put, List.setIfInBounds_toArray, List.set_cons_zero, List.set_cons_succ]
    refine wpAnyL_take (i := 4) (v := ?_) hcl hS (some 16) rfl rfl (by kernel_rfl) (by kernel_rfl) (by kernel_rfl) (fun _ _ _ h => h) (by kernel_rfl) ?_ (fun hcl => ?_)
    rotate_left 1
    · (refine Or.inl ⟨by rfl, ?_⟩; intro w' hw'; (try go_simp); (try rfl); done)
    try simp only [Act.put, List.setIfInBounds_toArray, List.set_cons_zero, List.set_cons_succ]
    refine wpAnyL_take (i := 5) (v := ?_) hcl hS (some 17) rfl rfl (by kernel_rfl) (by kernel_rfl) (by kernel_rfl) (fun _ _ _ h => h) (by kernel_rfl) ?_ (fun hcl => ?_)
    rotate_left 1
    · (refine Or.inl ⟨by rfl, ?_⟩; intro w' hw'; (try go_simp); (try rfl); done)
    try simp only [Act.put, List.setIfInBounds_toArray, List.set_cons_zero, List.set_cons_succ]
    refine wpAnyL_take (i := 6) (v := ?_) hcl hS (some 18) rfl rfl (by kernel_rfl) (by kernel_rfl) (by kernel_rfl) (fun _ _ _ h => h) (by kernel_rfl) ?_ (fun hcl => ?_)
    rotate_left 1
    · (refine Or.inl ⟨by rfl, ?_⟩; intro w' hw'; (try go_simp); (try rfl); done)
    try simp only [Act.put, List.setIfInBounds_toArray, List.set_cons_zero, List.set_cons_succ]
    refine wpAnyL_take (i := 7) (v := ?_) hcl hS (some 19) rfl rfl (by kernel_rfl) (by kernel_rfl) (by kernel_rfl) (fun _ _ _ h => h) (by kernel_rfl) ?_ (fun hcl => ?_)
    rotate_left 1
    · (refine Or.inl ⟨by rfl, ?_⟩; intro w' hw'; have hcl := (hAt.below hw').c1.1; (try go_simp); (try rfl); done)
    try simp only [Act.put, List.setIfInBounds_toArray, List.set_cons_zero, List.set_cons_succ]
    refine wpAnyL_take (i := 8) (v := ?_) hcl hS (some 20) rfl rfl (by kernel_rfl) (by kernel_rfl) (by kernel_rfl) (fun _ _ _ h => h) (by kernel_rfl) ?_ (fun hcl => ?_)
    rotate_left 1
    · (refine Or.inl ⟨by rfl, ?_⟩; intro w' hw'; (try go_simp); (try rfl); done)
    try simp only [Act.put, List.setIfInBounds_toArray, List.set_cons_zero, List.set_cons_succ]
    refine wpAnyL_take (i := 9) (v := ?_) hcl hS (some 21) rfl rfl (by kernel_rfl) (by kernel_rfl) (by kernel_rfl) (fun _ _ _ h => h) (by kernel_rfl) ?_ (fun hcl => ?_)
    rotate_left 1
    · (refine Or.inl ⟨by rfl, ?_⟩; intro w' hw'; (try go_simp); (try rfl); done)
    try simp only [Act.put, List.setIfInBounds_toArray, List.set_cons_zero, List.set_cons_succ]
    refine wpAnyL_take (i := 10) (v := ?_) hcl hS (some 22) rfl rfl (by kernel_rfl) (by kernel_rfl) (by kernel_rfl) (fun _ _ _ h => h) (by kernel_rfl) ?_ (fun hcl => ?_)
    rotate_left 1
    · (refine Or.inl ⟨by rfl, ?_⟩; intro w' hw'; (try go_simp); (try rfl); done)
    try simp only [Act.put, List.setIfInBounds_toArray, List.set_cons_zero, List.set_cons_succ]
    refine wpAnyL_take (i := 11) (v := ?_) hcl hS (some 23) rfl rfl (by kernel_rfl) (by kernel_rfl) (by kernel_rfl) (fun _ _ _ h => h) (by kernel_rfl) ?_ (fun hcl => ?_)
    rotate_left 1
    · (refine Or.inl ⟨by rfl, ?_⟩; intro w' hw'; (try go_simp); (try rfl); done)
    try simp only [Act.put, List.setIfInBounds_toArray, List.set_cons_zero, List.set_cons_succ]
    refine wpAnyL_take (i := 12) (v := ?_) hcl hS (some 24) rfl rfl (by kernel_rfl) (by kernel_rfl) (by kernel_rfl) (fun _ _ _ h => h) (by kernel_rfl) ?_ (fun hcl => ?_)
    rotate_left 1
    · (refine Or.inl ⟨by rfl, ?_⟩; intro w' hw'; (refine arr_dg.exAt (gL _ hw') hdL (.tmp 23) ?_ ?_ <;> rfl))
    try simp only [Act.put, List.setIfInBounds_toArray, List.set_cons_zero, List.set_cons_succ]
    refine wpAnyL_one (i := 13) hcl rfl (by kernel_rfl) (by rfl) (fun hcl K hK => ?_)
    refine wp_alloc_at (some 3) 29 rfl rfl _ (zeroD _) ?_
    have hb : Below w.heap.size w (W.drew.alloc (.cells (bs zer).toArray 29 (0, 0))) := hS.alloc b0.size _
    refine hK.out _ _ (fun _ => hb) ?_
    replace hS := hb
    clear hK K hb
    try simp only [Act.put, List.setIfInBounds_toArray, List.set_cons_zero, List.set_cons_succ]
    refine wpAnyL_late (i := 14) hcl rfl (by kernel_rfl) (by rfl) (by kernel_rfl) (fun hcl K hK => ?_)
    refine arr_dg.store_new zer_length hdL _ _ rfl rfl rfl ?_
    refine hK.out _ _ ?_
    clear hK K
    try simp only [Act.put, List.setIfInBounds_toArray, List.set_cons_zero, List.set_cons_succ]
    refine wpAnyL_done (by kernel_rfl) ?_ _
    have zd : W.drew.heap.size = w.heap.size + 1 := zW
    rw [zd]
    generalize W.drew.alloc (.cells (bs d).toArray 29 (0, 0)) = W3 at *
    have c3 := (hAt.below b1).c1.1
    clear r0 b0 zd e1 hS gL zW hw1 hw2
    have hi2 : RowKit.wrap64 ((ds.length : Int) - 2) = (L : Int) - 1 := by unfold RowKit.wrap64; have := hL.out; omega
    have hi3 : Hid ((ds.length : Int) - 2 = (L : Int) - 1) := by unfold Hid; have := hL.out; omega
    go_wp2_with fail
    try rw [hi3.out]
    clear hi2 c3
    go_loopw [4] (fun s4 wr => ∃ j : Nat, j ≤ L ∧ s4 = .int .i64 ((L : Int) - 1 - (j : Int)) ∧ RowT 29 wr (w.heap.size + 1) (headK ds j) ∧ RowT 29 wr w.heap.size zer ∧ Below w.heap.size w wr) (fun s4 _ => (intOf s4 + 1).toNat)
    case atStart => exact ⟨0, Nat.zero_le _, by simp, by rw [hk0]; exact hrow, r1, b1⟩
    case round =>
      obtain ⟨j, hj, rfl, hH, hZ, hb⟩ := hrel
      clear hrow r1 b1 hk0
      have hHl := headK_length ds h32 (by have := hL.out; omega) j (by have := hL.out; omega)
      by_cases hlt : j < L
      · obtain ⟨q, hq⟩ : ∃ q : Nat, L - 1 - j = q := ⟨_, rfl⟩
        have hqI : (L : Int) - 1 - j = (q : Int) := by omega
        have hsu := headK_succ ds j (by have := hL.out; omega)
        rw [show ds.length - 1 - (j + 1) = q by have := hL.out; omega] at hsu
        have hdq := hg32 q (by have := hL.out; omega)
        have gq := gp q (by have := hL.out; omega)
        have nd := fun w' => rnode_any (ds.getD q []) (headK ds j) hdq hHl w'
        have hnl := nodeL_length (ds.getD q []) (headK ds j)
        rw [hqI]
        rw [← hsu] at nd hnl
        clear hsu
        generalize headK ds j = hh at *
        generalize ds.getD q [] = dq at *
        have hcur : Below w.heap.size w wr := hb
        have e0 := Ext.refl wr
        have q0 : (0 : Int) ≤ q := by omega
        have q1' : (q : Int) < ds.length := by have := hL.out; omega
        have hAx := fun w' (hw : Below w.heap.size w w') => (hAt.below hw).c1.1
        replace hqI : Hid _ := hqI
        replace hq : Hid _ := hq
        go_wp2_with fail
        refine wp_region_F 10 (by kernel_rfl) (fun hcl => ?_)
        replace hcur := below_via hcur (ext_drew _)
        replace e0 := Ext.trans e0 (ext_drew _)
        refine wpAnyF_take (fin := 10) (i := 0) (v := ?_) hcl (some 35) rfl rfl (by kernel_rfl) (by kernel_rfl) (by kernel_rfl) (fun _ _ _ h => h) (by kernel_rfl) ?_ (fun hcl => ?_)
        rotate_left 1
        · (refine Or.inl ⟨by rfl, ?_⟩; intro w' hw'; have hq := below_via hcur hw'; have hq_e0 := Ext.trans e0 hw'; (try go_simp); (try rfl); done)
        try simp only [Act.put, List.setIfInBounds_toArray, List.set_cons_zero, List.set_cons_succ]
        refine wpAnyF_take (fin := 10) (i := 1) (v := ?_) hcl (some 36) rfl rfl (by kernel_rfl) (by kernel_rfl) (by kernel_rfl) (fun _ _ _ h => h) (by kernel_rfl) ?_ (fun hcl => ?_)
        rotate_left 1
        · (refine Or.inl ⟨by rfl, ?_⟩; intro w' hw'; have hq := below_via hcur hw'; have hq_e0 := Ext.trans e0 hw'; (try go_simp); (try rfl); done)
        try simp only [Act.put, List.setIfInBounds_toArray, List.set_cons_zero, List.set_cons_succ]
        refine wpAnyF_take (fin := 10) (i := 2) (v := ?_) hcl (some 37) rfl rfl (by kernel_rfl) (by kernel_rfl) (by kernel_rfl) (fun _ _ _ h => h) (by kernel_rfl) ?_ (fun hcl => ?_)
        rotate_left 1
        · (refine Or.inl ⟨by rfl, ?_⟩; intro w' hw'; have hq := below_via hcur hw'; have hq_e0 := Ext.trans e0 hw'; (try go_simp); (try rfl); done)
        try simp only [Act.put, List.setIfInBounds_toArray, List.set_cons_zero, List.set_cons_succ]
        refine wpAnyF_take (fin := 10) (i := 3) (v := ?_) hcl (some 38) rfl rfl (by kernel_rfl) (by kernel_rfl) (by kernel_rfl) (fun _ _ _ h => h) (by kernel_rfl) ?_ (fun hcl => ?_)
        rotate_left 1
        · (refine Or.inl ⟨by rfl, ?_⟩; intro w' hw'; have hq := below_via hcur hw'; have hq_e0 := Ext.trans e0 hw'; have hcl := hAx _ hq; (try go_simp); (try rfl); done)
        try simp only [Act.put, List.setIfInBounds_toArray, List.set_cons_zero, List.set_cons_succ]
        refine wpAnyF_take (fin := 10) (i := 4) (v := ?_) hcl (some 39) rfl rfl (by kernel_rfl) (by kernel_rfl) (by kernel_rfl) (fun _ _ _ h => h) (by kernel_rfl) ?_ (fun hcl => ?_)
        rotate_left 1
        · (refine Or.inl ⟨by rfl, ?_⟩; intro w' hw'; have hq := below_via hcur hw'; have hq_e0 := Ext.trans e0 hw'; (try go_simp); (try rfl); done)
        try simp only [Act.put, List.setIfInBounds_toArray, List.set_cons_zero, List.set_cons_succ]
        refine wpAnyF_take (fin := 10) (i := 5) (v := ?_) hcl (some 40) rfl rfl (by kernel_rfl) (by kernel_rfl) (by kernel_rfl) (fun _ _ _ h => h) (by kernel_rfl) ?_ (fun hcl => ?_)
        rotate_left 1
        · (refine Or.inl ⟨by rfl, ?_⟩; intro w' hw'; have hq := below_via hcur hw'; have hq_e0 := Ext.trans e0 hw'; (try go_simp); (try rfl); done)
        try simp only [Act.put, List.setIfInBounds_toArray, List.set_cons_zero, List.set_cons_succ]
        refine wpAnyF_take (fin := 10) (i := 6) (v := ?_) hcl (some 41) rfl rfl (by kernel_rfl) (by kernel_rfl) (by kernel_rfl) (fun _ _ _ h => h) (by kernel_rfl) ?_ (fun hcl => ?_)
        rotate_left 1
        · (refine Or.inl ⟨by rfl, ?_⟩; intro w' hw'; have hq := below_via hcur hw'; have hq_e0 := Ext.trans e0 hw'; (try go_simp); (try rfl); done)
        try simp only [Act.put, List.setIfInBounds_toArray, List.set_cons_zero, List.set_cons_succ]
        refine wpAnyF_take (fin := 10) (i := 7) (v := ?_) hcl (some 42) rfl rfl (by kernel_rfl) (by kernel_rfl) (by kernel_rfl) (fun _ _ _ h => h) (by kernel_rfl) ?_ (fun hcl => ?_)
        rotate_left 1
        · (refine Or.inl ⟨by rfl, ?_⟩; intro w' hw'; have hq := below_via hcur hw'; have hq_e0 := Ext.trans e0 hw'; (refine arr_dg.exAt (gq _ hq) hdq (.tmp 41) ?_ ?_ <;> rfl))
        try simp only [Act.put, List.setIfInBounds_toArray, List.set_cons_zero, List.set_cons_succ]
        refine wpAnyF_take (fin := 10) (i := 8) (v := ?_) hcl (some 43) rfl rfl (by kernel_rfl) (by kernel_rfl) (by kernel_rfl) (fun _ _ _ h => h) (by kernel_rfl) ?_ (fun hcl => ?_)
        rotate_left 1
        · (refine Or.inl ⟨by rfl, ?_⟩; intro w' hw'; have hq := below_via hcur hw'; have hq_e0 := Ext.trans e0 hw'; (refine arr_dg.ex (hH.below hq_e0) hHl (.tmp 3) ?_ ?_ <;> rfl))
        try simp only [Act.put, List.setIfInBounds_toArray, List.set_cons_zero, List.set_cons_succ]
        refine wpAnyF_one (fin := 10) (i := 9) hcl rfl (by kernel_rfl) (by rfl) (fun hcl K hK => ?_)
        go_simp
        (with_reducible refine (nd _).mono ?_); rintro e w7 ⟨rfl, hb⟩
        refine hK.out _ _ hb ?_
        replace hcur := below_via hcur hb; clear hK K
        replace e0 := Ext.trans e0 hb
        try simp only [Act.put, List.setIfInBounds_toArray, List.set_cons_zero, List.set_cons_succ]
        refine wpAnyF_last (fin := 10) rfl (by kernel_rfl) (by kernel_rfl) (by rfl) (fun K hK => ?_)
        have r9 := hH.below e0
        refine arr_dg.store r9 hHl hnl _ _ rfl rfl rfl ?_
        refine hK.out _ _ ?_
        clear hK K hcl
        have rH := r9.setRow (headK ds (j + 1))
        have rZ := (hZ.below e0).other (D := w.heap.size + 1) (by omega) (bs (headK ds (j + 1))).toArray
        have bz := below_setRow hcur (show w.heap.size ≤ w.heap.size + 1 by omega) (bs (headK ds (j + 1))).toArray
        have hq3 : RowKit.wrap64 ((q : Int) - 1) = (q : Int) - 1 := by unfold RowKit.wrap64; have := hqI.out; omega
        go_wp2_with fail
        go_roundw
        case rel => exact ⟨j + 1, by omega, by have := hqI.out; rw [show (L : Int) - 1 - ((j + 1 : Nat) : Int) = (q : Int) - 1 by omega], rH, rZ, bz⟩
        case measure => simp [intOf]
      · obtain rfl : j = L := by omega
        have hall := headK_all ds (by have := hL.out; omega)
        rw [show ds.length - 1 = j by have := hL.out; omega] at hall
        rw [show (j : Int) - 1 - (j : Int) = -1 by omega]
        generalize headK ds j = hh at *
        have hret := arr_dg.loadVar (hZ.setRow hh) hHl
        have bz := below_setRow hb (Nat.le_refl _) (bs hh).toArray
        go_wp2_with (first
          | ((with_reducible refine at_load ?_); refine arr_dg.loadL hH (by rfl) hHl _ rfl rfl ?_)
          | ((with_reducible refine at_store ?_); refine arr_dg.storeL hZ zer_length rfl hHl _ _ rfl rfl rfl ?_))
        exact ret_cell (v := dg hh) Try.results26 rfl hret rfl ⟨by rw [hall], bz⟩
end Go.Proofs.Ytcaaeimcieooiaa

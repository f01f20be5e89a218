/- Sign, Verify, Id, May of the program (walks). -/
import Derived.Test.YtpdkonkgkjkkmaaSigM
import Derived.Test.YtpdkonkgkjkkmaaSh8
set_option linter.unusedVariables false
set_option linter.unusedSimpArgs false
namespace Go.Proofs.Ytpdkonkgkjkkmaa
open Go.RowKit
attribute [local go_sem high] rs_l rs_lh rs_lhm rs_h rs_hm rs_all dg_cells

def mayL (k : List UInt8) : Bool := decide (1 ≤ k.length) && decide (k.length ≤ 64)
theorem mayL_iff (k : List UInt8) : mayL k = true ↔ 1 ≤ k.length ∧ k.length ≤ 64 := by unfold mayL; simp
def tailL (k m : List UInt8) : List UInt8 := UInt8.ofNat k.length :: (k ++ m)
def sigA (k m : List UInt8) : List UInt8 := sha (1 :: tailL k m)
def sigB (k m : List UInt8) : List UInt8 := sha (2 :: (sigA k m ++ tailL k m))
def sigL (k m : List UInt8) : List UInt8 := sigA k m ++ sigB k m
def idL (k : List UInt8) : List UInt8 := sha (0 :: k)
theorem sigA_length (k m : List UInt8) : (sigA k m).length = 32 := sha_length _
theorem sigB_length (k m : List UInt8) : (sigB k m).length = 32 := sha_length _
theorem sigL_length (k m : List UInt8) : (sigL k m).length = 64 := by unfold sigL; rw [List.length_append, sigA_length, sigB_length]

theorem may_any (v : Value) (k : List UInt8) (w : World) (hv : SlB w v k) :
    Calls Try.prog 17 #[v] w fun e w' => e = .returned (.bool (mayL k)) ∧ w = w' := by
  obtain ⟨A, c, rfl, hc, hcm, hA, hrr⟩ := hv
  by_cases h1 : 1 ≤ k.length
  · by_cases h2 : k.length ≤ 64
    · have hm := (mayL_iff k).2 ⟨h1, h2⟩
      have g1 : (1 : Int) ≤ k.length := by omega
      have g2 : (k.length : Int) ≤ 64 := by omega
      rw [hm]
      go_enter Try.func17, Try.ntmps17
      go_wp2
      go_ret
      exact ⟨rfl, rfl⟩
    · have hm : mayL k = false := by unfold mayL; simp [h2]
      have g1 : (1 : Int) ≤ k.length := by omega
      have g2 : ¬ (k.length : Int) ≤ 64 := by omega
      rw [hm]
      go_enter Try.func17, Try.ntmps17
      go_wp2
      go_ret
      exact ⟨rfl, rfl⟩
  · have hm : mayL k = false := by unfold mayL; simp [h1]
    have g1 : ¬ (1 : Int) ≤ k.length := by omega
    rw [hm]
    go_enter Try.func17, Try.ntmps17
    go_wp2
    go_ret
    exact ⟨rfl, rfl⟩

theorem put_sig (a b : List UInt8) (ha : a.length = 32) (hb : b.length = 32) : put (put zer64 0 a) 32 b = a ++ b := by
  unfold put
  have e1 : (zer64.take 0 ++ a ++ zer64.drop (0 + a.length)).take 32 = a := by
    simp [List.take_append, ha]
  have e2 : (zer64.take 0 ++ a ++ zer64.drop (0 + a.length)).drop (32 + b.length) = [] := by
    apply List.drop_eq_nil_of_le; simp [ha, hb, zer64]
  rw [e1, e2, List.append_nil]

set_option maxRecDepth 10000 in
set_option maxHeartbeats 4000000 in
theorem sign_any (vk vm : Value) (k m : List UInt8) (w : World) (hk : SlB w vk k) (hm : SlB w vm m) (hml : m.length ≤ 1073741824) :
    Calls Try.prog 13 #[vk, vm] w fun e w' => e = .returned (.tuple #[dg (if mayL k then sigL k m else zer64), .int .i64 (if mayL k then 0 else 1)]) ∧ Below w.heap.size w w' := by
  obtain ⟨W2, hW⟩ : ∃ W2, (w.alloc (.cells (bs zer64).toArray 22 (0, 0))).alloc (.cells (bs zer64).toArray 22 (0, 0)) = W2 := ⟨_, rfl⟩
  obtain ⟨h1, h2, b2, z2⟩ := alloc2 hW
  have r1 : RowT 22 W2 w.heap.size zer64 := h1
  have r2 : RowT 22 W2 (w.heap.size + 1) zer64 := h2
  have hretz := arr_sg.loadVar (r1.setRow zer64) zer64_length
  have bz := below_setRow b2 (Nat.le_refl _) (bs zer64).toArray
  have hk2 := hk.below b2
  have hm2 := hm.below b2
  obtain ⟨A, c, rfl, hc, hcm, hA, hrr⟩ := hk
  obtain ⟨A', c', rfl, hc', hcm', hA', hrr'⟩ := hm
  have hmay := may_any _ k W2 hk2
  by_cases hy : mayL k = true
  · rw [hy] at hmay
    have hkl := (mayL_iff k).1 hy
    simp only [hy, if_true]
    go_enter Try.func13, Try.ntmps13
    go_wp2_with fail
    refine (show Calls Try.prog 17 _ _ _ from (by rw [← hW] at hmay; exact hmay)).mono ?_
    rw [hW]
    rintro e w' ⟨rfl, rfl⟩
    have w8 : IntKind.u8.wrap (k.length : Int) = c8 (UInt8.ofNat k.length) := wrap_c8 _
    clear hW h1 h2 hmay hretz bz hrr hrr'
    obtain ⟨nb, hnb⟩ : ∃ nb, nb = UInt8.ofNat k.length := ⟨_, rfl⟩
    have htl : tailL k m = nb :: (k ++ m) := by rw [hnb]; rfl
    rw [← hnb] at w8
    replace htl : Hid _ := htl
    clear hnb
    go_wp2_with fail
    obtain ⟨W3, hW3⟩ : ∃ W3, W2.alloc (.cells #[.int .u8 (c8 nb)] 5) = W3 := ⟨_, rfl⟩
    have b3 : Ext W2 W3 := hW3 ▸ ext_alloc _ _
    have z3 : W3.heap.size = w.heap.size + 2 + 1 := by rw [← hW3, size_alloc, z2]
    have sM : SlB W3 (.slice (some ⟨w.heap.size + 2, 0, none⟩) 1 1) [nb] := by rw [← z2, ← hW3]; exact slB_one W2 nb _ _
    obtain ⟨W4, hW4⟩ : ∃ W4, W3.alloc (.cells #[.int .u8 1] 5) = W4 := ⟨_, rfl⟩
    have b4 : Ext W3 W4 := hW4 ▸ ext_alloc _ _
    have z4 : W4.heap.size = w.heap.size + 2 + 1 + 1 := by rw [← hW4, size_alloc, z3]
    have s1 : SlB W4 (.slice (some ⟨w.heap.size + 2 + 1, 0, none⟩) 1 1) [1] := by rw [← z3, ← hW4]; exact slB_one W3 1 _ _
    rw [hW3, hW4]
    have b5 : Ext W4 (W4.alloc (.cells #[.slice (some ⟨w.heap.size + 2 + 1, 0, none⟩) 1 1, .slice (some ⟨w.heap.size + 2, 0, none⟩) 1 1, .slice A k.length c, .slice A' m.length c'] 23)) := ext_alloc _ _
    have q5 := sl_new W4 [.slice (some ⟨w.heap.size + 2 + 1, 0, none⟩) 1 1, .slice (some ⟨w.heap.size + 2, 0, none⟩) 1 1, .slice A k.length c, .slice A' m.length c'] 23 4 rfl (by decide)
    rw [z4] at q5
    have hcall := hash_any _ [(.slice (some ⟨w.heap.size + 2 + 1, 0, none⟩) 1 1, [1]), (.slice (some ⟨w.heap.size + 2, 0, none⟩) 1 1, [nb]), (.slice A k.length c, k), (.slice A' m.length c', m)] _ q5 (by
      intro p hp
      simp only [List.mem_cons, List.not_mem_nil, or_false] at hp
      rcases hp with rfl | rfl | rfl | rfl
      · exact s1.below b5
      · exact (sM.below b4).below b5
      · exact ((hk2.below b3).below b4).below b5
      · exact ((hm2.below b3).below b4).below b5) (by simp; omega)
    have hfm : ([(.slice (some ⟨w.heap.size + 2 + 1, 0, none⟩) 1 1, [1]), (.slice (some ⟨w.heap.size + 2, 0, none⟩) 1 1, [nb]), (.slice A k.length c, k), (.slice A' m.length c', m)] : List (Value × List UInt8)).flatMap (·.2) = 1 :: tailL k m := by rw [htl.out]; simp
    rw [hfm] at hcall
    refine hcall.mono ?_
    clear hcall hfm q5 hW3 hW4 s1
    rintro e W6 ⟨rfl, b6⟩
    have b46 := Ext.trans b5 b6
    have b26 := Ext.trans b3 (Ext.trans b4 b46)
    have sM6 := (sM.below b4).below b46
    have hk6 := hk2.below b26
    have hm6 := hm2.below b26
    have r16 := r1.below b26
    have r26 := r2.below b26
    have bw6 := Below.trans b2 (b26.mono (by omega))
    have z6 := b26.size
    clear b3 b4 b5 b6 b46 b26 sM hk2 hm2 r1 r2 z3 z4
    have hda : (sha (1 :: tailL k m)).length = 32 := sha_length _
    have hsA : Hid (sigA k m = sha (1 :: tailL k m)) := rfl
    generalize sha (1 :: tailL k m) = da at *
    go_wp2_with (refine arr_dg.store_newL zer_length rfl hda _ _ rfl rfl rfl ?_)
    obtain ⟨W7, hW7⟩ : ∃ W7, W6.alloc (.cells (bs da).toArray 35 (0, 0)) = W7 := ⟨_, rfl⟩
    have b7 : Ext W6 W7 := hW7 ▸ ext_alloc _ _
    have z7 : W7.heap.size = W6.heap.size + 1 := by rw [← hW7, size_alloc]
    have rA : RowT 35 W7 W6.heap.size da := by rw [← hW7]; exact heap_alloc_new _ _
    obtain ⟨W8, hW8⟩ : ∃ W8, W7.alloc (.cells #[.int .u8 2] 5) = W8 := ⟨_, rfl⟩
    have b8 : Ext W7 W8 := hW8 ▸ ext_alloc _ _
    have z8 : W8.heap.size = W6.heap.size + 1 + 1 := by rw [← hW8, size_alloc, z7]
    have s2 : SlB W8 (.slice (some ⟨W6.heap.size + 1, 0, none⟩) 1 1) [2] := by rw [← z7, ← hW8]; exact slB_one W7 2 _ _
    have sA := rA.sl (by rw [hda]; decide)
    rw [hda] at sA
    rw [hW7, hW8]
    have b9 : Ext W8 (W8.alloc (.cells #[.slice (some ⟨W6.heap.size + 1, 0, none⟩) 1 1, .slice (some ⟨W6.heap.size, 0, none⟩) 32 32, .slice (some ⟨w.heap.size + 2, 0, none⟩) 1 1, .slice A k.length c, .slice A' m.length c'] 23)) := ext_alloc _ _
    have q9 := sl_new W8 [.slice (some ⟨W6.heap.size + 1, 0, none⟩) 1 1, .slice (some ⟨W6.heap.size, 0, none⟩) 32 32, .slice (some ⟨w.heap.size + 2, 0, none⟩) 1 1, .slice A k.length c, .slice A' m.length c'] 23 5 rfl (by decide)
    rw [z8] at q9
    have hcall := hash_any _ [(.slice (some ⟨W6.heap.size + 1, 0, none⟩) 1 1, [2]), (.slice (some ⟨W6.heap.size, 0, none⟩) 32 32, da), (.slice (some ⟨w.heap.size + 2, 0, none⟩) 1 1, [nb]), (.slice A k.length c, k), (.slice A' m.length c', m)] _ q9 (by
      intro p hp
      simp only [List.mem_cons, List.not_mem_nil, or_false] at hp
      rcases hp with rfl | rfl | rfl | rfl | rfl
      · exact s2.below b9
      · exact (sA.below b8).below b9
      · exact ((sM6.below b7).below b8).below b9
      · exact ((hk6.below b7).below b8).below b9
      · exact ((hm6.below b7).below b8).below b9) (by simp; omega)
    have hfm : ([(.slice (some ⟨W6.heap.size + 1, 0, none⟩) 1 1, [2]), (.slice (some ⟨W6.heap.size, 0, none⟩) 32 32, da), (.slice (some ⟨w.heap.size + 2, 0, none⟩) 1 1, [nb]), (.slice A k.length c, k), (.slice A' m.length c', m)] : List (Value × List UInt8)).flatMap (·.2) = 2 :: (da ++ tailL k m) := by rw [htl.out]; simp
    rw [hfm] at hcall
    refine hcall.mono ?_
    clear hcall hfm q9 hW7 hW8 s2
    rintro e W10 ⟨rfl, b10⟩
    have hsB : Hid (sigB k m = sha (2 :: (da ++ tailL k m))) := by unfold Hid sigB; rw [hsA.out]
    have hdb : (sha (2 :: (da ++ tailL k m))).length = 32 := sha_length _
    generalize sha (2 :: (da ++ tailL k m)) = db at *
    have b710 := Ext.trans b8 (Ext.trans b9 b10)
    have b610 := Ext.trans b7 b710
    have rA10 := rA.below b710
    have r110 := r16.below b610
    have r210 := r26.below b610
    have bw10 := Ext.trans bw6 b610
    have z10 : W6.heap.size < W10.heap.size := rA10.lt
    clear b7 b8 b9 b10 b710 b610 rA sA sM6 hk6 hm6 r16 r26 bw6 z7 z8 htl
    go_wp2_with (refine arr_dg.store_newL zer_length rfl hdb _ _ rfl rfl rfl ?_)
    obtain ⟨W11, hW11⟩ : ∃ W11, W10.alloc (.cells (bs db).toArray 35 (0, 0)) = W11 := ⟨_, rfl⟩
    have b11 : Ext W10 W11 := hW11 ▸ ext_alloc _ _
    have rB : RowT 35 W11 W10.heap.size db := by rw [← hW11]; exact heap_alloc_new _ _
    have rA11 := rA10.below b11
    have r111 := r110.below b11
    have r211 := r210.below b11
    have bw11 := Ext.trans bw10 b11
    rw [hW11]
    clear hW11 b11 rA10 r110 r210 bw10
    have hp1 : (put zer64 0 da).length = 64 := put_length zer64_length (by omega)
    have hp2 := put_sig da db hda hdb
    have rdA : RdB W11.drew (some ⟨W6.heap.size, 0, none⟩) da := by
      obtain ⟨A0, c0, e, _, _, _, h⟩ := rA11.sl (by rw [hda]; decide)
      injection e with e _ _; rw [e]; exact h
    have kc1 := copy_into (w := W11.drew) r211 0 64 32 (cap := 64) (c := 32) rdA hda.symm rfl (by rw [hda]; decide) (Nat.le_refl _)
    have r212 : RowT 22 (W11.drew.setRow (w.heap.size + 1) (bs (put zer64 0 da)).toArray) (w.heap.size + 1) (put zer64 0 da) := RowT.setRow (w := W11.drew) r211 _
    have rB12 : RowT 35 (W11.drew.setRow (w.heap.size + 1) (bs (put zer64 0 da)).toArray) W10.heap.size db := RowT.other (w := W11.drew) rB (by omega) _
    have r112 : RowT 22 (W11.drew.setRow (w.heap.size + 1) (bs (put zer64 0 da)).toArray) w.heap.size zer64 := RowT.other (w := W11.drew) r111 (by omega) _
    have bw12 : Below w.heap.size w (W11.drew.setRow (w.heap.size + 1) (bs (put zer64 0 da)).toArray) := below_setRow bw11.drew (by omega) _
    have rdB : RdB (W11.drew.setRow (w.heap.size + 1) (bs (put zer64 0 da)).toArray) (some ⟨W10.heap.size, 0, none⟩) db := by
      obtain ⟨A0, c0, e, _, _, _, h⟩ := rB12.sl (by rw [hdb]; decide)
      injection e with e _ _; rw [e]; exact h
    have kc2 := copy_into r212 32 32 32 (cap := 32) (c := 32) rdB hdb.symm (by rw [hp1]) (by rw [hp1, hdb]; decide) (Nat.le_refl _)
    rw [hp2] at kc2
    have r113 := r112.other (B := w.heap.size) (D := w.heap.size + 1) (by omega) (bs (da ++ db)).toArray
    have r213 := r212.setRow (da ++ db)
    have bw13 := below_setRow bw12 (Nat.le_succ w.heap.size) (bs (da ++ db)).toArray
    refine wp_region_T (by kernel_rfl) ?_
    refine wpAnyT_take (i := 0) (v := ?_) (some 31) rfl rfl (by kernel_rfl) (by kernel_rfl) (by kernel_rfl) (fun _ _ _ h => h) ?_ ?_
    rotate_left 1
    · (refine Or.inl ⟨by rfl, ?_⟩; intro w' _; (try go_simp); (try rfl); done)
    try simp only [Act.put, List.setIfInBounds_toArray, List.set_cons_zero, List.set_cons_succ]
    refine wpAnyT_take (i := 1) (v := ?_) (some 32) rfl rfl (by kernel_rfl) (by kernel_rfl) (by kernel_rfl) (fun _ _ _ h => h) ?_ ?_
    rotate_left 1
    · (refine Or.inl ⟨by rfl, ?_⟩; intro w' _; (try go_simp); (try rfl); done)
    try simp only [Act.put, List.setIfInBounds_toArray, List.set_cons_zero, List.set_cons_succ]
    refine wpAnyT_take (i := 4) (v := ?_) (some 35) rfl rfl (by kernel_rfl) (by kernel_rfl) (by kernel_rfl) (fun _ _ _ h => h) ?_ ?_
    rotate_left 1
    · (refine Or.inl ⟨by rfl, ?_⟩; intro w' _; (try go_simp); (try rfl); done)
    try simp only [Act.put, List.setIfInBounds_toArray, List.set_cons_zero, List.set_cons_succ]
    refine wpAnyT_one (i := 2) rfl (by kernel_rfl) (by rfl) (fun K hK => ?_)
    go_simp
    refine hK.out _ _ ?_
    clear hK K
    try simp only [Act.put, List.setIfInBounds_toArray, List.set_cons_zero, List.set_cons_succ]
    refine wpAnyT_take (i := 3) (v := ?_) (some 34) rfl rfl (by kernel_rfl) (by kernel_rfl) (by kernel_rfl) (fun _ _ _ h => h) ?_ ?_
    rotate_left 1
    · (refine Or.inl ⟨by rfl, ?_⟩; intro w' _; (try go_simp); (try rfl); done)
    try simp only [Act.put, List.setIfInBounds_toArray, List.set_cons_zero, List.set_cons_succ]
    refine wpAnyT_one (i := 5) rfl (by kernel_rfl) (by rfl) (fun K hK => ?_)
    go_simp
    refine hK.out _ _ ?_
    clear hK K
    try simp only [Act.put, List.setIfInBounds_toArray, List.set_cons_zero, List.set_cons_succ]
    refine wpAnyT_done (by kernel_rfl) ?_ _
    have hl64 : (da ++ db).length = 64 := by rw [List.length_append, hda, hdb]
    have hfin : sigL k m = da ++ db := by unfold sigL; rw [hsA.out, hsB.out]
    generalize da ++ db = sg at *
    generalize ((W11.drew.setRow (w.heap.size + 1) (bs (put zer64 0 da)).toArray).setRow (w.heap.size + 1) (bs sg).toArray) = W13 at *
    have hret := arr_sg.loadVar (r113.setRow sg) hl64
    have bw14 := below_setRow bw13 (Nat.le_refl w.heap.size) (bs sg).toArray
    replace hfin : Hid _ := hfin
    clear kc1 kc2 hsA hsB
    go_wp2_with (first | (refine arr_sg.loadL r213 (by rfl) hl64 _ rfl rfl ?_) | (refine arr_sg.storeL r113 zer64_length rfl hl64 _ _ rfl rfl rfl ?_))
    exact ret_cell2 (v := dg sg) Try.results13 rfl hret rfl ⟨by rw [hfin.out]; rfl, bw14⟩
  · rw [Bool.not_eq_true] at hy
    rw [hy] at hmay
    simp only [hy, Bool.false_eq_true, if_false]
    go_enter Try.func13, Try.ntmps13
    go_wp2_with fail
    refine (show Calls Try.prog 17 _ _ _ from (by rw [← hW] at hmay; exact hmay)).mono ?_
    rw [hW]
    rintro e w' ⟨rfl, rfl⟩
    go_wp2_with (first | (refine arr_sg.loadL r2 (by rfl) zer64_length _ rfl rfl ?_) | (refine arr_sg.storeL r1 zer64_length rfl zer64_length _ _ rfl rfl rfl ?_))
    exact ret_cell2 (v := dg zer64) Try.results13 rfl hretz rfl ⟨rfl, bz⟩

set_option maxHeartbeats 2000000 in
theorem verify_any (vk vm : Value) (k m s : List UInt8) (w : World) (hk : SlB w vk k) (hm : SlB w vm m) (hml : m.length ≤ 1073741824) (hs : s.length = 64) :
    Calls Try.prog 19 #[vk, vm, dg s] w fun e w' => e = .returned (.bool (mayL k && (s == sigL k m))) ∧ Below w.heap.size w w' := by
  have r0 : RowT 22 (w.alloc (.cells (bs s).toArray 22 (0, 0))) w.heap.size s := heap_alloc_new _ _
  have b0 := ext_alloc w (.cells (bs s).toArray 22 (0, 0))
  have hsg := sign_any vk vm k m _ (hk.below b0) (hm.below b0) hml
  change Calls _ _ #[_, _, .agg (bs s).toArray] _ _
  by_cases hy : mayL k = true
  · simp only [hy, if_true, Bool.true_and] at hsg ⊢
    have qe := arr_sg.eql s (sigL k m) hs (sigL_length k m)
    have hl := sigL_length k m
    have qg := fun op x y w => arr_sg.guard op x y s (sigL k m) w
    generalize sigL k m = t at *
    go_enter Try.func19, Try.ntmps19
    go_wp2_with fail
    refine hsg.mono ?_
    rintro e w1 ⟨rfl, b1⟩
    have r1 := (r0.below b1).below (ext_alloc w1 (.cells (bs t).toArray 22 (0, 0)))
    have x1 : RowT 22 (w1.alloc (.cells (bs t).toArray 22 (0, 0))) w1.heap.size t := heap_alloc_new _ _
    have bw := Ext.trans b0 (Ext.trans b1 (ext_alloc w1 (.cells (bs t).toArray 22 (0, 0))))
    clear r0 b0 b1 hsg
    go_wp2_with (first | (refine arr_sg.store_newL zer64_length rfl hl _ _ rfl rfl rfl ?_) | (refine arr_sg.loadL r1 (by rfl) hs _ rfl rfl ?_) | (refine arr_sg.loadL x1 (by rfl) hl _ rfl rfl ?_))
    go_ret
    exact ⟨rfl, bw⟩
  · rw [Bool.not_eq_true] at hy
    simp only [hy, Bool.false_eq_true, if_false, Bool.false_and] at hsg ⊢
    go_enter Try.func19, Try.ntmps19
    go_wp2_with fail
    refine hsg.mono ?_
    rintro e w1 ⟨rfl, b1⟩
    have bw := Ext.trans b0 (Ext.trans b1 (ext_alloc w1 (.cells (bs zer64).toArray 22 (0, 0))))
    clear r0 b0 b1 hsg
    go_wp2_with (refine arr_sg.store_newL zer64_length rfl zer64_length _ _ rfl rfl rfl ?_)
    go_ret
    exact ⟨rfl, bw⟩

set_option maxHeartbeats 2000000 in
theorem id_any (vk : Value) (k : List UInt8) (w : World) (hk : SlB w vk k) :
    Calls Try.prog 15 #[vk] w fun e w' => e = .returned (.tuple #[dg (if mayL k then idL k else zer), .int .i64 (if mayL k then 0 else 1)]) ∧ Below w.heap.size w w' := by
  have r0 : RowT 35 (w.alloc (.cells (bs zer).toArray 35 (0, 0))) w.heap.size zer := heap_alloc_new _ _
  have b0 := ext_alloc w (.cells (bs zer).toArray 35 (0, 0))
  have z0 := size_alloc w (.cells (bs zer).toArray 35 (0, 0))
  have hk0 := hk.below b0
  have hmay := may_any _ k _ hk0
  obtain ⟨A, c, rfl, _, _, _, _⟩ := hk
  have hretz := arr_dg.loadVar (r0.setRow zer) zer_length
  have bz := below_setRow b0 (Nat.le_refl _) (bs zer).toArray
  by_cases hy : mayL k = true
  · rw [hy] at hmay
    have hkl := (mayL_iff k).1 hy
    simp only [hy, if_true]
    go_enter Try.func15, Try.ntmps15
    go_wp2_with fail
    refine hmay.mono ?_
    rintro e w' ⟨rfl, rfl⟩
    clear hmay hretz bz
    go_wp2_with fail
    obtain ⟨W1, hW1⟩ : ∃ W1, w.alloc (.cells (bs zer).toArray 35 (0, 0)) = W1 := ⟨_, rfl⟩
    rw [hW1] at r0 b0 z0 hk0
    obtain ⟨W2, hW2⟩ : ∃ W2, W1.alloc (.cells #[.int .u8 0] 5) = W2 := ⟨_, rfl⟩
    have b2 : Ext W1 W2 := hW2 ▸ ext_alloc _ _
    have z2 : W2.heap.size = w.heap.size + 1 + 1 := by rw [← hW2, size_alloc, z0]
    have s2 : SlB W2 (.slice (some ⟨w.heap.size + 1, 0, none⟩) 1 1) [0] := by rw [← z0, ← hW2]; exact slB_one W1 0 _ _
    have b3 : Ext W2 (W2.alloc (.cells #[.slice (some ⟨w.heap.size + 1, 0, none⟩) 1 1, .slice A k.length c] 23)) := ext_alloc _ _
    have q3 := sl_new W2 [.slice (some ⟨w.heap.size + 1, 0, none⟩) 1 1, .slice A k.length c] 23 2 rfl (by decide)
    rw [z2] at q3
    have hcall := hash_any _ [(.slice (some ⟨w.heap.size + 1, 0, none⟩) 1 1, [0]), (.slice A k.length c, k)] _ q3 (by
      intro p hp
      simp only [List.mem_cons, List.not_mem_nil, or_false] at hp
      rcases hp with rfl | rfl
      · exact s2.below b3
      · exact (hk0.below b2).below b3) (by simp; omega)
    have hfm : ([(.slice (some ⟨w.heap.size + 1, 0, none⟩) 1 1, [0]), (.slice A k.length c, k)] : List (Value × List UInt8)).flatMap (·.2) = 0 :: k := by simp
    rw [hfm, ← hW2, ← hW1] at hcall
    refine hcall.mono ?_
    rw [hW1, hW2]
    clear hcall hfm q3 hW1 hW2 s2
    rintro e W4 ⟨rfl, b4⟩
    have b14 := Ext.trans b2 (Ext.trans b3 b4)
    have r4 := r0.below b14
    have bw4 := Ext.trans b0 b14
    have hdl : (sha (0 :: k)).length = 32 := sha_length _
    have hid : Hid (idL k = sha (0 :: k)) := rfl
    generalize sha (0 :: k) = dd at *
    have hret := arr_dg.loadVar (r4.setRow dd) hdl
    have bz := below_setRow bw4 (Nat.le_refl _) (bs dd).toArray
    go_wp2_with (refine arr_dg.storeL r4 zer_length rfl hdl _ _ rfl rfl rfl ?_)
    exact ret_cell2 (v := dg dd) Try.results15 rfl hret rfl ⟨by rw [hid.out]; rfl, bz⟩
  · rw [Bool.not_eq_true] at hy
    rw [hy] at hmay
    simp only [hy, Bool.false_eq_true, if_false]
    go_enter Try.func15, Try.ntmps15
    go_wp2_with fail
    refine hmay.mono ?_
    rintro e w' ⟨rfl, rfl⟩
    go_wp2_with (refine arr_dg.storeL r0 zer_length rfl zer_length _ _ rfl rfl rfl ?_)
    exact ret_cell2 (v := dg zer) Try.results15 rfl hretz rfl ⟨rfl, bz⟩
end Go.Proofs.Ytpdkonkgkjkkmaa

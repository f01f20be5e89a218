/- The law RangesKnown (walk). -/
import Derived.Test.YtcaaeimcieooiaaRngW
set_option linter.unusedVariables false
set_option linter.unusedSimpArgs false
set_option maxRecDepth 10000
namespace Go.Proofs.Ytcaaeimcieooiaa
open Go.RowKit
attribute [local go_sem high] dg_cells guard_dg

def five : List UInt8 := 5 :: List.replicate 31 0
def six : List UInt8 := 6 :: List.replicate 31 0
theorem five_length : five.length = 32 := rfl
theorem six_length : six.length = 32 := rfl
/-- How many ones stand at the end. -/
def tz : Nat → Nat → Nat
  | 0, _ => 0
  | f + 1, n => if n % 2 = 1 then 1 + tz f (n / 2) else 0
theorem told_len : ∀ (f n : Nat) (ds : List (List UInt8)) (x : List UInt8) (told : List (List UInt8)), (addN f n ds x told).2.2.length = told.length + tz f n
  | 0, n, ds, x, told => rfl
  | f + 1, n, ds, x, told => by
    unfold addN tz
    split
    · rw [told_len f, List.length_append, List.length_singleton]; omega
    · rfl
theorem rep_get (n : Nat) (v : Value) (j : Nat) (h : j < n) : (List.replicate n v).toArray[j]! = v := by simp [h]
theorem made_zer (n : Nat) : madeCells (bs zer).toArray (n * 32) = (bs (List.replicate n zer).flatten).toArray := by
  have h1 : (List.replicate n zer).flatten = List.replicate (n * 32) 0 := by
    unfold zer
    rw [List.flatten_replicate_replicate]
  rw [h1]
  apply Array.ext
  · simp [madeCells, bs]
  · intro i hi1 hi2
    have hz : bs zer = List.replicate 32 (.int .u8 (c8 0)) := rfl
    simp only [madeCells, Array.getElem_map, Array.getElem_range]
    rw [hz]
    have hlt : i % 32 < 32 := Nat.mod_lt _ (by omega)
    rw [show (List.replicate 32 (Value.int .u8 (c8 0))).toArray.size = 32 from rfl, rep_get 32 _ _ hlt]
    simp [bs]
set_option maxHeartbeats 8000000 in
theorem law_RangesKnown (w : World) : Calls Try.prog 4 #[] w fun e w' => e = .returned (.bool true) ∧ Below w.heap.size w w' := by
  have hZ : RgAt (w.alloc (.cells #[.int .u64 0, .slice none 0 0, .bool false] 49 (0, 0))) w.heap.size 0 (.slice none 0 0) false := heap_alloc_new w _
  have b0 := ext_alloc w (.cells #[.int .u64 0, .slice none 0 0, .bool false] 49 (0, 0))
  generalize hW : w.alloc (.cells #[.int .u64 0, .slice none 0 0, .bool false] 49 (0, 0)) = W at *
  go_enter Try.func4, Try.ntmps4
  go_wp2_with fail
  refine (add_nil zer W).mono ?_; rintro e w1 ⟨rfl, b1⟩
  replace hZ := hZ.below b1
  have bw := Ext.trans b0 b1
  clear b0 b1 hW
  go_wp2_with fail
  refine (add_zero hZ zer).mono ?_; rintro e w2 ⟨rfl, b2⟩
  replace hZ := hZ.below b2
  replace bw := Ext.trans bw b2
  clear b2
  go_wp2_with fail
  refine (size_nil w2).mono ?_; rintro e w3 ⟨rfl, rfl⟩
  go_wp2_with fail
  refine (size_at hZ).mono ?_; rintro e w3 ⟨rfl, rfl⟩
  go_wp2_with fail
  refine (peaks_nil w2).mono ?_; rintro e w3 ⟨rfl, rfl⟩
  go_wp2_with fail
  have lz : (sha []).length = 32 := sha_length _
  have hrt := fun w' => root_any 0 _ [] w' (Nat.le_refl _) (by omega) (slD_nil w')
  have hrn : rootL [] = sha [] := rfl
  have hh0 : headL [] = sha [] := rfl
  rw [hrn] at hrt
  have h1 := rg_root_nil w2
  have h2 := fun w' (h : Ext w2 w') => rg_root_zero (hZ.below h)
  generalize sha [] = z at *
  replace hh0 : Hid _ := hh0
  have q1 := neq_dg_self z lz
  have q2 := eql_dg_self z lz
  refine h1.mono ?_; rintro e w3 ⟨rfl, b3⟩
  go_wp2_with fail
  refine (hrt w3).mono ?_; rintro e w4 ⟨rfl, b4⟩
  go_wp2_with fail
  have b24 := Ext.trans b3 b4
  refine (h2 _ b24).mono ?_; rintro e w5 ⟨rfl, b5⟩
  go_wp2_with fail
  refine (hrt w5).mono ?_; rintro e w6 ⟨rfl, b6⟩
  have b26 := Ext.trans b24 (Ext.trans b5 b6)
  replace hZ := hZ.below b26
  replace bw := Ext.trans bw b26
  clear b3 b4 b24 b5 b6 b26 h1 h2
  go_wp2_with fail
  refine (rg_copy_nil w6).mono ?_; rintro e w7 ⟨rfl, rfl⟩
  go_wp2_with fail
  refine (rg_copy_zero hZ).mono ?_; rintro e w7 ⟨rfl, rfl⟩
  have hd5 := five_length
  clear hZ
  have s7 := slD_one w6 five 29 five_length
  have b7 := ext_alloc w6 (.cells (bs five).toArray 29 (0, 0))
  go_wp2_with (first
    | ((with_reducible refine at_bs ?_); refine wpl_bD (x := five) rfl five_length _ rfl rfl ?_)
    | fail)
  replace bw := Ext.trans bw b7
  generalize w6.alloc (.cells (bs five).toArray 29 (0, 0)) = w7 at *
  clear b7
  refine (rg_from _ [five] w7 1048576 s7 (by omega) (by decide +kernel)).mono ?_; rintro e w8 ⟨pf, vf, rfl, hF, b8⟩
  replace bw := Ext.trans bw b8
  clear b8 s7
  have b9 := ext_alloc w8 (.cells (bs (five ++ six)).toArray 29 (0, 0))
  go_wp2_with (first
    | ((with_reducible refine at_bs ?_); refine wpl_bDs rfl [five, six] (by intro d hd; simp only [List.mem_cons, List.not_mem_nil, or_false] at hd; rcases hd with rfl | rfl <;> rfl) (by simp) (by simp) _ 2 rfl rfl (by rw [Array.toList_map]; rfl) ?_)
    | fail)
  replace bw := Ext.trans bw b9
  replace hF := hF.below b9
  generalize hW9 : w8.alloc (.cells (bs (five ++ six)).toArray 29 (0, 0)) = w9 at *
  clear b9 hW9
  refine (from_big _ 2 2 w9 1048577 (by omega)).mono ?_; rintro e w10 ⟨rfl, rfl⟩
  go_wp2_with fail
  refine (from_big none 0 0 w9 9223372036854775808 (by omega)).mono ?_; rintro e w10 ⟨rfl, rfl⟩
  go_wp2_with fail
  refine (add_full hF.at_ rfl zer).mono ?_; rintro e w10 ⟨rfl, b10⟩
  replace bw := Ext.trans bw b10
  replace hF := hF.below b10
  clear b10
  obtain ⟨zs, hzs⟩ : ∃ zs, List.replicate 20 zer = zs := ⟨_, rfl⟩
  have hzl : zs.length = 20 := by rw [← hzs]; rfl
  have hz32 : All32 zs := fun d hd => by rw [← hzs] at hd; rw [(List.mem_replicate.1 hd).2]; rfl
  have hmk : ∀ w', (Instr.makeSlice 30 (.int .i64 20) (.int .i64 20)).run Try.prog w' = .ok (.slice (some ⟨w'.heap.size, 0, none⟩) 20 20) (w'.alloc (.cells (bs zs.flatten).toArray 29)) := fun w' => by
    rw [← hzs, ← made_zer]; exact make_dgs' w' 20 (by omega)
  clear hzs
  have s11 := slD_lit w10 zs 29 hz32 (by omega)
  rw [hzl] at s11
  have b11 := ext_alloc w10 (.cells (bs zs.flatten).toArray 29 (0, 0))
  go_wp2_with fail
  replace bw := Ext.trans bw b11
  replace hF := hF.below b11
  generalize hW11 : w10.alloc (.cells (bs zs.flatten).toArray 29 (0, 0)) = w11 at *
  clear b11 hW11 hmk
  have hsz11 := bw.size
  refine (rg_from _ zs w11 1048575 s11 (by omega) (by rw [hzl]; decide +kernel)).mono ?_; rintro e w12 ⟨pl, vl, rfl, hL, b12⟩
  replace bw := Ext.trans bw b12
  replace hF := hF.below b12
  have hsz12 := b12.size
  clear b12 s11
  have q5 : ∀ w', (binOp .neq 29 (dg five) (.agg #[.int .u8 5, .int .u8 0, .int .u8 0, .int .u8 0, .int .u8 0, .int .u8 0, .int .u8 0, .int .u8 0, .int .u8 0, .int .u8 0, .int .u8 0, .int .u8 0, .int .u8 0, .int .u8 0, .int .u8 0, .int .u8 0, .int .u8 0, .int .u8 0, .int .u8 0, .int .u8 0, .int .u8 0, .int .u8 0, .int .u8 0, .int .u8 0, .int .u8 0, .int .u8 0, .int .u8 0, .int .u8 0, .int .u8 0, .int .u8 0, .int .u8 0, .int .u8 0])).run Try.prog w' = .ok (.bool false) w' := fun w' => neq_dg_self five rfl w'
  have q5g : ∀ x y w', (eqGuard .neq 29 x y (dg five) (.agg #[.int .u8 5, .int .u8 0, .int .u8 0, .int .u8 0, .int .u8 0, .int .u8 0, .int .u8 0, .int .u8 0, .int .u8 0, .int .u8 0, .int .u8 0, .int .u8 0, .int .u8 0, .int .u8 0, .int .u8 0, .int .u8 0, .int .u8 0, .int .u8 0, .int .u8 0, .int .u8 0, .int .u8 0, .int .u8 0, .int .u8 0, .int .u8 0, .int .u8 0, .int .u8 0, .int .u8 0, .int .u8 0, .int .u8 0, .int .u8 0, .int .u8 0, .int .u8 0])).run Try.prog w' = .ok () w' := fun x y w' => guard_dg .neq x y five five w'
  have hrf := rg_root hF
  have hhf : headL [five] = five := rfl
  rw [hhf] at hrf
  clear hhf
  go_wp2_with fail
  refine hrf.mono ?_; rintro e w13 ⟨rfl, b13⟩
  replace bw := Ext.trans bw b13
  replace hL := hL.below b13
  have hsz13 := b13.size
  clear hF hrf b13
  go_wp2_with fail
  refine (rg_add hL (by omega) (by omega) zer zer_length).mono ?_; rintro e w14 ⟨u, vl2, rfl, ou, hL2, bu, dj⟩
  have ht : (toldN 1048575 zs zer).length = 21 := by unfold toldN; rw [told_len]; decide +kernel
  have hn1 : (nextN 1048575 zs zer).length = 1 := by rw [hL2.pop]; decide +kernel
  obtain ⟨⟨A, cu, rfl, _⟩, _⟩ := ou.sl
  rw [ht]
  replace bw := Below.trans bw (bu.below bw.size (fun k hk h => by have := hL.blk k h; have := bw.size; omega))
  generalize nextN 1048575 zs zer = ns at *
  clear ou dj bu hL ht q5 q5g
  go_wp2_with fail
  refine (rg_from (.slice none 0 0) [] w14 0 (slD_nil w14) (by omega) (by decide)).mono ?_; rintro e w15 ⟨q, vq, rfl, hQ, b15⟩
  replace bw := Ext.trans bw b15
  replace hL2 := hL2.below b15
  clear b15
  have h1 := rg_size hL2
  have h2 := rg_peaks hL2
  go_wp2_with fail
  refine h1.mono ?_; rintro e w16 ⟨rfl, rfl⟩
  clear h1
  go_wp2_with fail
  refine h2.mono ?_; rintro e w16 ⟨vp, rfl, op, b16⟩
  obtain ⟨⟨A', cp, rfl, _⟩, _⟩ := op.sl
  rw [hn1]
  replace bw := Ext.trans bw b16
  replace hQ := hQ.below b16
  have h3 := rg_root hQ
  rw [hh0.out] at h3
  clear h2 op b16 hL2
  go_wp2_with fail
  refine h3.mono ?_; rintro e w17 ⟨rfl, b17⟩
  replace bw := Ext.trans bw b17
  clear b17 h3 hQ
  go_wp2_with fail
  refine (hrt w17).mono ?_; rintro e w18 ⟨rfl, b18⟩
  replace bw := Ext.trans bw b18
  clear b18 hrt
  go_wp2_with fail
  refine (rg_new w18).mono ?_; rintro e w19 ⟨pn, rfl, hN, b19⟩
  replace bw := Ext.trans bw b19
  clear b19
  have h4 := rg_size hN
  go_wp2_with fail
  refine h4.mono ?_; rintro e w20 ⟨rfl, rfl⟩
  clear h4
  go_wp2_with fail
  refine (wakes_any w19).mono ?_; rintro e w20 ⟨rfl, b20⟩
  replace bw := Ext.trans bw b20
  go_wp2_with fail
  go_ret
  exact ⟨rfl, bw⟩
end Go.Proofs.Ytcaaeimcieooiaa

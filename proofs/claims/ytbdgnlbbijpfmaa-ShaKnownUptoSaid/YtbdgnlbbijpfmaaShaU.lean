/- Unhex of the program and of the reference (walks). -/
import Derived.Test.YtbdgnlbbijpfmaaShaH
set_option linter.unusedVariables false
set_option linter.unusedSimpArgs false
namespace Go.Proofs.Ytbdgnlbbijpfmaa
open Go.RowKit
/-- The iterator at I stands here. -/
def setIter (w : World) (I : Nat) (s : ByteArray) (p : Nat) : World := { w with heap := w.heap.setIfInBounds I (.stringIter s p) }
theorem setIter_same {w : World} {I : Nat} (s : ByteArray) (p : Nat) (h : I < w.heap.size) : (setIter w I s p).heap[I]? = some (.stringIter s p) := by simp [setIter, h]
theorem setIter_other (w : World) {I J : Nat} (s : ByteArray) (p : Nat) (h : J ≠ I) : (setIter w I s p).heap[J]? = w.heap[J]? := by
  simp [setIter, Array.getElem?_setIfInBounds, Ne.symm h]
theorem setIter_size (w : World) (I : Nat) (s : ByteArray) (p : Nat) : (setIter w I s p).heap.size = w.heap.size := by simp [setIter]
theorem next_at (w : World) (I : Nat) (s : ByteArray) (p : Nat) (ty : TypeId) (hI : w.heap[I]? = some (.stringIter s p)) (h : p < s.size) :
    (Instr.next (.pointer (some ⟨I, 0, none⟩)) true ty).run Try.prog w = .ok (.tuple #[.bool true, .int .i64 p, .int .i32 (Utf8.decode s p).1]) (setIter w I s (p + (Utf8.decode s p).2)) := by
  simp only [Instr.next, getObj, setObj, Sem.run_bind, Sem.run, hI, Result.andThen, h, if_true]
  simp [goInt, Sem.run, hI, setIter]
theorem next_over (w : World) (I : Nat) (s : ByteArray) (p : Nat) (ty : TypeId) (hI : w.heap[I]? = some (.stringIter s p)) (h : ¬ p < s.size) :
    (Instr.next (.pointer (some ⟨I, 0, none⟩)) true ty).run Try.prog w = .ok (.tuple #[.bool false]) w := by
  simp [Instr.next, getObj, Sem.run, hI, h]
theorem below_setIter {B : Nat} {w0 w : World} {I : Nat} (h : Below B w0 w) (hI : B ≤ I) (s : ByteArray) (p : Nat) : Below B w0 (setIter w I s p) :=
  ⟨h.os, h.tape, h.output, by rw [setIter_size]; exact h.size, fun k hk => (setIter_other w s p (by omega)).trans (h.block k hk)⟩
def iterPos (w : World) (I : Nat) : Nat := match w.heap[I]? with
  | some (.stringIter _ p) => p
  | _ => 0
theorem iterPos_of {w : World} {I : Nat} {s : ByteArray} {p : Nat} (h : w.heap[I]? = some (.stringIter s p)) : iterPos w I = p := by unfold iterPos; rw [h]
theorem decode_str (s : List UInt8) (k : Nat) (h : k < s.length) (ha : (s.getD k 0).toNat < 128) : (Utf8.decode (str s) k).2 = 1 := by
  have e : (str s)[k]'(by rw [str_size]; exact h) = s.getD k 0 := by show s.toArray[k] = _; simp [h]
  rw [decode_ascii (str s) k (by rw [str_size]; exact h) (by rw [e]; exact ha)]
theorem isHash_no_len {s : List UInt8} (h : s.length ≠ 64) : isHash s = false := by
  cases e : isHash s with
  | false => rfl
  | true => exact absurd ((isHash_iff s).1 e).1 h
theorem isHash_no_at {s : List UInt8} {k : Nat} (h : k < 64) (hk : ¬ hexVal (s.getD k 0) < 16) : isHash s = false := by
  cases e : isHash s with
  | false => rfl
  | true => exact absurd (((isHash_iff s).1 e).2 k h) hk
theorem orN (a b : Nat) (ha : a < 16) (hb : b < 16) : bits .or .u8 (c8 (UInt8.ofNat a) * 16 % 256) (b : Int) = c8 (UInt8.ofNat (16 * a + b)) := by
  have : ∀ a b : Fin 16, bits .or .u8 (c8 (UInt8.ofNat a.val) * 16 % 256) (b.val : Int) = c8 (UInt8.ofNat (16 * a.val + b.val)) := by decide +kernel
  exact this ⟨a, ha⟩ ⟨b, hb⟩
set_option maxHeartbeats 1000000 in
theorem unhex_any (s : List UInt8) (w : World) :
    Calls Try.prog 12 #[.string (str s)] w fun e w' => e = .returned (.tuple #[dg (if isHash s then unhexL s else zer), .int .i64 (if isHash s then 0 else 5)]) ∧ Below w.heap.size w w' := by
  obtain ⟨W2, hW⟩ : ∃ W2, (w.alloc (.cells (bs zer).toArray 24 (0, 0))).alloc (.cells (bs zer).toArray 24 (0, 0)) = W2 := ⟨_, rfl⟩
  obtain ⟨h1, h2, b2, z2⟩ := alloc2 hW
  have r1 : Row32 W2 w.heap.size zer := h1
  have r2 : Row32 W2 (w.heap.size + 1) zer := h2
  have hi := info32' zer_length
  have hone : (bs zer).toArray.all (·.oneCell') = true := all_oneCell_toArray (bs_one _)
  have hinf := info32 zer_length
  by_cases hl : s.length = 64
  · have e1 : ((s.length : Int) != 64) = false := by rw [hl]; rfl
    have hA : (W2.alloc (.stringIter (str s) 0)).heap[w.heap.size + 2]? = some (.stringIter (str s) 0) := by rw [← z2]; exact heap_alloc_new _ _
    have r1' := r1.below (ext_alloc W2 (.stringIter (str s) 0))
    have r2' := r2.below (ext_alloc W2 (.stringIter (str s) 0))
    have b2' := b2.trans ((ext_alloc W2 (.stringIter (str s) 0)).mono b2.size)
    have z2' : (W2.alloc (.stringIter (str s) 0)).heap.size = w.heap.size + 3 := by rw [size_alloc, z2]
    rw [← hW] at r1' r2' b2' hA z2'
    clear hW h1 h2 r1 r2 b2 z2
    go_enter Try.func12, Try.ntmps12
    go_wp2_with fail
    go_loopw [] (fun wr => ∃ k : Nat, k ≤ 64 ∧ (∀ j, j < k → hexVal (s.getD j 0) < 16) ∧ wr.heap[w.heap.size + 2]? = some (.stringIter (str s) k) ∧ Row32 wr (w.heap.size + 1) (unRow s k) ∧ Row32 wr w.heap.size zer ∧ Below w.heap.size w wr ∧ w.heap.size + 3 ≤ wr.heap.size) (fun wr => 64 - iterPos wr (w.heap.size + 2))
    case atStart => exact ⟨0, by omega, fun j hj => absurd hj (by omega), hA, by rw [unRow_zero]; exact r2', r1', b2', Nat.le_of_eq z2'.symm⟩
    case round =>
      clear r1' r2' b2' hA z2'
      obtain ⟨k, hk, hg, hI, hd, hD, bw, zw⟩ := hrel
      have hip := iterPos_of hI
      generalize wr = W3 at *
      by_cases h64 : k < 64
      · have hn := fun ty => next_at W3 (w.heap.size + 2) (str s) k ty hI (by rw [str_size]; omega)
        obtain ⟨p', hp'⟩ : ∃ p', p' = k + (Utf8.decode (str s) k).2 := ⟨_, rfl⟩
        rw [← hp'] at hn
        obtain ⟨W4, hW4⟩ : ∃ W4, W4 = setIter W3 (w.heap.size + 2) (str s) p' := ⟨_, rfl⟩
        rw [← hW4] at hn
        have hI4 : W4.heap[w.heap.size + 2]? = some (.stringIter (str s) p') := by rw [hW4]; exact setIter_same _ _ (by omega)
        have hd4 : Row32 W4 (w.heap.size + 1) (unRow s k) := by rw [hW4]; exact (setIter_other W3 _ _ (by omega)).trans hd
        have hD4 : Row32 W4 w.heap.size zer := by rw [hW4]; exact (setIter_other W3 _ _ (by omega)).trans hD
        have bw4 : Below w.heap.size w W4 := by rw [hW4]; exact below_setIter bw (by omega) _ _
        have zw4 : w.heap.size + 3 ≤ W4.heap.size := by rw [hW4, setIter_size]; exact zw
        have hwid : hexVal (s.getD k 0) < 16 → p' = k + 1 := fun h => by rw [hp', decode_str s k (by omega) (hexVal_ascii _ h)]
        generalize (Utf8.decode (str s) k).1 = ru at hn
        have hx := fun w' => ix_str w' s k (by omega)
        clear hp' hW4 hI hd hD bw zw
        generalize hc : s.getD k 0 = c at hwid hx
        have hJ : (W4.alloc (.stringIter digitsS 0)).heap[W4.heap.size]? = some (.stringIter digitsS 0) := heap_alloc_new _ _
        have b5 := ext_alloc W4 (.stringIter digitsS 0)
        replace hc : Hid (s.getD k 0 = c) := hc
        go_wp2_with fail
        go_loopw [6] (fun n wr => ∃ j : Nat, j ≤ 16 ∧ n = .int .i64 (metN c j) ∧ wr.heap[W4.heap.size]? = some (.stringIter digitsS j) ∧ Below W4.heap.size W4 wr) (fun _ wr => 16 - iterPos wr W4.heap.size)
        case atStart => exact ⟨0, by omega, by rw [metN_zero], hJ, b5⟩
        case round =>
          clear hJ b5 hn
          obtain ⟨j, hj, rfl, hJ, b5⟩ := hrel
          have hjp := iterPos_of hJ
          have zJ : W4.heap.size < wr.heap.size := (Array.getElem?_eq_some_iff.1 hJ).1
          generalize wr = W5 at *
          by_cases h16 : j < 16
          · have hn := fun ty => next_at W5 W4.heap.size digitsS j ty hJ h16
            have hw1 : (Utf8.decode digitsS j).2 = 1 := by
              have : ∀ j : Fin 16, (Utf8.decode digitsS j.val).2 = 1 := by decide +kernel
              exact this ⟨j, h16⟩
            rw [hw1] at hn
            have hJ6 : (setIter W5 W4.heap.size digitsS (j + 1)).heap[W4.heap.size]? = some (.stringIter digitsS (j + 1)) := setIter_same _ _ zJ
            have b6 := below_setIter b5 (Nat.le_refl _) digitsS (j + 1)
            generalize setIter W5 W4.heap.size digitsS (j + 1) = W6 at hn hJ6 b6
            generalize (Utf8.decode digitsS j).1 = ru2 at hn
            have i2 := fun w' => ix_dig w' j h16 .i64 _ rfl
            by_cases hcd : c = digN j
            · have hcb : (c8 c == c8 (digN j)) = true := by rw [hcd]; simp
              have hm := metN_eq c j h16 hcd
              generalize digN j = dj at *
              go_wp2_with fail
              refine wp_region_T (by kernel_rfl) ?_
              refine wpAnyT_take (i := 0) (v := ?_) (some 21) rfl rfl (by kernel_rfl) (by kernel_rfl) (by kernel_rfl) (fun _ _ _ h => h) ?_ ?_
              rotate_left 1
              · (refine Or.inl ⟨by rfl, ?_⟩; intro w' _; (try go_simp); (try rfl); done)
              try simp only [Act.put, List.setIfInBounds_toArray, List.set_cons_zero, List.set_cons_succ]
              refine wpAnyT_take (i := 1) (v := ?_) (some 22) rfl rfl (by kernel_rfl) (by kernel_rfl) (by kernel_rfl) (fun _ _ _ h => h) ?_ ?_
              rotate_left 1
              · (refine Or.inl ⟨by rfl, ?_⟩; intro w' _; (try go_simp); (try rfl); done)
              try simp only [Act.put, List.setIfInBounds_toArray, List.set_cons_zero, List.set_cons_succ]
              refine wpAnyT_take (i := 2) (v := ?_) (some 23) rfl rfl (by kernel_rfl) (by kernel_rfl) (by kernel_rfl) (fun _ _ _ h => h) ?_ ?_
              rotate_left 1
              · (refine Or.inl ⟨by rfl, ?_⟩; intro w' _; (try go_simp); (try rfl); done)
              try simp only [Act.put, List.setIfInBounds_toArray, List.set_cons_zero, List.set_cons_succ]
              refine wpAnyT_take (i := 3) (v := ?_) (some 24) rfl rfl (by kernel_rfl) (by kernel_rfl) (by kernel_rfl) (fun _ _ _ h => h) ?_ ?_
              rotate_left 1
              · (refine Or.inl ⟨by rfl, ?_⟩; intro w' _; (try go_simp); (try rfl); done)
              try simp only [Act.put, List.setIfInBounds_toArray, List.set_cons_zero, List.set_cons_succ]
              refine wpAnyT_take (i := 4) (v := ?_) (some 25) rfl rfl (by kernel_rfl) (by kernel_rfl) (by kernel_rfl) (fun _ _ _ h => h) ?_ ?_
              rotate_left 1
              · (refine Or.inl ⟨by rfl, ?_⟩; intro w' _; (try go_simp); (try rfl); done)
              try simp only [Act.put, List.setIfInBounds_toArray, List.set_cons_zero, List.set_cons_succ]
              refine wpAnyT_take (i := 5) (v := ?_) (some 26) rfl rfl (by kernel_rfl) (by kernel_rfl) (by kernel_rfl) (fun _ _ _ h => h) ?_ ?_
              rotate_left 1
              · (refine Or.inl ⟨by rfl, ?_⟩; intro w' _; (try go_simp); (try rfl); done)
              try simp only [Act.put, List.setIfInBounds_toArray, List.set_cons_zero, List.set_cons_succ]
              refine wpAnyT_done (by kernel_rfl) ?_ _
              go_wp2_with fail
              go_roundw
              case rel => exact ⟨j + 1, by omega, by rw [hm], hJ6, b6.drew⟩
              case measure =>
                rw [hjp, show iterPos W6.drew W4.heap.size = j + 1 from iterPos_of hJ6]; omega
            · have hcb : (c8 c == c8 (digN j)) = false := by rw [c8_beq]; simpa using hcd
              have hm := metN_ne c j h16 hcd
              generalize digN j = dj at *
              go_wp2_with fail
              refine wp_region_T (by kernel_rfl) ?_
              refine wpAnyT_take (i := 0) (v := ?_) (some 21) rfl rfl (by kernel_rfl) (by kernel_rfl) (by kernel_rfl) (fun _ _ _ h => h) ?_ ?_
              rotate_left 1
              · (refine Or.inl ⟨by rfl, ?_⟩; intro w' _; (try go_simp); (try rfl); done)
              try simp only [Act.put, List.setIfInBounds_toArray, List.set_cons_zero, List.set_cons_succ]
              refine wpAnyT_take (i := 1) (v := ?_) (some 22) rfl rfl (by kernel_rfl) (by kernel_rfl) (by kernel_rfl) (fun _ _ _ h => h) ?_ ?_
              rotate_left 1
              · (refine Or.inl ⟨by rfl, ?_⟩; intro w' _; (try go_simp); (try rfl); done)
              try simp only [Act.put, List.setIfInBounds_toArray, List.set_cons_zero, List.set_cons_succ]
              refine wpAnyT_take (i := 2) (v := ?_) (some 23) rfl rfl (by kernel_rfl) (by kernel_rfl) (by kernel_rfl) (fun _ _ _ h => h) ?_ ?_
              rotate_left 1
              · (refine Or.inl ⟨by rfl, ?_⟩; intro w' _; (try go_simp); (try rfl); done)
              try simp only [Act.put, List.setIfInBounds_toArray, List.set_cons_zero, List.set_cons_succ]
              refine wpAnyT_take (i := 3) (v := ?_) (some 24) rfl rfl (by kernel_rfl) (by kernel_rfl) (by kernel_rfl) (fun _ _ _ h => h) ?_ ?_
              rotate_left 1
              · (refine Or.inl ⟨by rfl, ?_⟩; intro w' _; (try go_simp); (try rfl); done)
              try simp only [Act.put, List.setIfInBounds_toArray, List.set_cons_zero, List.set_cons_succ]
              refine wpAnyT_take (i := 4) (v := ?_) (some 25) rfl rfl (by kernel_rfl) (by kernel_rfl) (by kernel_rfl) (fun _ _ _ h => h) ?_ ?_
              rotate_left 1
              · (refine Or.inl ⟨by rfl, ?_⟩; intro w' _; (try go_simp); (try rfl); done)
              try simp only [Act.put, List.setIfInBounds_toArray, List.set_cons_zero, List.set_cons_succ]
              refine wpAnyT_take (i := 5) (v := ?_) (some 26) rfl rfl (by kernel_rfl) (by kernel_rfl) (by kernel_rfl) (fun _ _ _ h => h) ?_ ?_
              rotate_left 1
              · (refine Or.inl ⟨by rfl, ?_⟩; intro w' _; (try go_simp); (try rfl); done)
              try simp only [Act.put, List.setIfInBounds_toArray, List.set_cons_zero, List.set_cons_succ]
              refine wpAnyT_done (by kernel_rfl) ?_ _
              go_wp2_with fail
              go_roundw
              case rel => exact ⟨j + 1, by omega, by rw [hm], hJ6, b6.drew⟩
              case measure =>
                rw [hjp, show iterPos W6.drew W4.heap.size = j + 1 from iterPos_of hJ6]; omega
          · obtain rfl : j = 16 := by omega
            have hn := fun ty => next_over W5 W4.heap.size digitsS 16 ty hJ (by decide)
            have hd5 := hd4.below b5
            have hD5 := hD4.below b5
            have bw5 := bw4.trans (b5.mono (by omega))
            have zw5 : w.heap.size + 3 ≤ W5.heap.size := by omega
            have hI5 := (b5.block (w.heap.size + 2) (by omega)).trans hI4
            clear hd4 hD4 bw4 zw4 hI4 zJ hjp hJ
            by_cases hv : hexVal c < 16
            · have hm : metN c 16 = (hexVal c : Int) := by unfold metN; rw [if_pos hv]
              have hnew := unRow_set s k h64
              rw [hc.out] at hnew
              have hold := uN_old s k
              have hold16 : uN s k (k / 2) < 16 := by
                rw [hold]; split
                · exact hg _ (by omega)
                · omega
              have hcell := hd5.cell (j := k / 2) (by rw [unRow_length]; omega)
              have hg5 : (unRow s k).getD (k / 2) 0 = UInt8.ofNat (uN s k (k / 2)) := by unfold unRow; rw [tab_get _ _ (by omega)]
              rw [hg5] at hcell
              have hset := hd5.set (k / 2) (UInt8.ofNat (16 * uN s k (k / 2) + hexVal c))
              rw [hnew] at hset
              rw [hwid hv] at hI5
              have hg6 : ∀ j, j < k + 1 → hexVal (s.getD j 0) < 16 := fun j hj => by
                by_cases e : j = k
                · rw [e, hc.out]; exact hv
                · exact hg j (by omega)
              generalize uN s k (k / 2) = old at *
              generalize hexVal c = h at *
              clear hold hg5 hnew
              go_wp2_with fail
              rw [orN _ _ hold16 hv]
              have hI6 : (W5.setCell ⟨w.heap.size + 1, k / 2, none⟩ (.int .u8 (c8 (UInt8.ofNat (16 * old + h))))).heap[w.heap.size + 2]? = some (.stringIter (str s) (k + 1)) := (heap_setCell_other _ _ _ _ (show w.heap.size + 2 ≠ w.heap.size + 1 by omega)).trans hI5
              refine ⟨⟨k + 1, by omega, hg6, hI6, hset, ?_, below_setCell bw5 (by omega) _, ?_⟩, ?_⟩
              · exact (heap_setCell_other _ _ _ _ (show w.heap.size ≠ w.heap.size + 1 by omega)).trans hD5
              · simpa [World.setCell] using zw5
              · rw [hip, iterPos_of hI6]; omega
            · have hm : metN c 16 = -1 := by unfold metN; rw [if_neg hv]
              have hH := isHash_no_at h64 (hc.out.symm ▸ hv)
              have hret := load32 (w := W5.setRow w.heap.size (bs zer).toArray) (D := w.heap.size) (xs := zer) (setRow_heap W5 w.heap.size _ _ _ _ hD5) zer_length
              have b3 := below_setRow bw5 (Nat.le_refl _) (bs zer).toArray
              go_wp2_with (refine wpList_store_row rfl 24 _ _ rfl w.heap.size (bs zer).toArray rfl rfl 24 _ hD5 hinf rfl hone ?_)
              all_goals exact ret_cell2 (v := dg zer) Try.results12 rfl hret rfl ⟨rfl, b3⟩
      · obtain rfl : k = 64 := by omega
        have hn := fun ty => next_over W3 (w.heap.size + 2) (str s) 64 ty hI (by rw [str_size]; omega)
        have hH := (isHash_iff s).2 ⟨hl, hg⟩
        have hone2 : (bs (unRow s 64)).toArray.all (·.oneCell') = true := all_oneCell_toArray (bs_one _)
        have hret := load32 (w := W3.setRow w.heap.size (bs (unRow s 64)).toArray) (D := w.heap.size) (xs := unRow s 64) (setRow_heap W3 w.heap.size _ _ _ _ hD) (unRow_length _ _)
        have b3 := below_setRow bw (Nat.le_refl _) (bs (unRow s 64)).toArray
        have hi2 := info32' (unRow_length s 64)
        have hinf2 := info32 (unRow_length s 64)
        have hsz2 : (bs zer).toArray.size = (bs (unRow s 64)).toArray.size := by simp [bs_length, unRow_length, zer_length]
        go_wp2_with (first | (refine wpList_load_mid rfl 24 _ rfl (w.heap.size + 1) 0 rfl _ _ hd.range Try.underlying24 rfl hi2 ?_) | (refine wpList_store_row rfl 24 _ _ rfl w.heap.size (bs (unRow s 64)).toArray rfl rfl 24 _ hD hinf2 hsz2 hone2 ?_))
        refine ret_cell2 (v := dg (unRow s 64)) Try.results12 rfl hret rfl ⟨rfl, b3⟩
  · have e1 : ((s.length : Int) != 64) = true := by rw [bne_iff_ne]; omega
    rw [isHash_no_len hl]
    go_enter Try.func12, Try.ntmps12
    have hret := load32 (w := W2.setRow w.heap.size (bs zer).toArray) (D := w.heap.size) (xs := zer) (setRow_heap W2 w.heap.size _ _ _ _ r1) zer_length
    have b3 := below_setRow b2 (Nat.le_refl _) (bs zer).toArray
    rw [← hW] at r1 r2 hret b3
    clear hW h1 h2
    go_wp2_with (first | (refine wpList_load_mid rfl 24 _ rfl (w.heap.size + 1) 0 rfl _ _ r2.range Try.underlying24 rfl hi ?_) | (refine wpList_store_row rfl 24 _ _ rfl w.heap.size (bs zer).toArray rfl rfl 24 _ r1 hinf rfl hone ?_))
    refine ret_cell2 (v := dg zer) Try.results12 rfl hret rfl ⟨rfl, b3⟩
theorem orM (a b : Nat) (ha : a < 16) (hb : b < 16) : 16 * c8 (UInt8.ofNat a) % 256 + (b : Int) = c8 (UInt8.ofNat (16 * a + b)) := by
  unfold c8; rw [UInt8.toNat_ofNat', UInt8.toNat_ofNat']; omega
theorem rv1 (c : UInt8) (h1 : 48 ≤ c.toNat) (h2 : c.toNat ≤ 57) : (c8 c - 48) % 256 = (hexVal c : Int) := by
  unfold hexVal c8; rw [if_pos ⟨h1, h2⟩]; omega
set_option maxHeartbeats 1000000 in
theorem runhex_any (s : List UInt8) (w : World) :
    Calls Try.prog 13 #[.string (str s)] w fun e w' => e = .returned (.tuple #[dg (if isHash s then unhexL s else zer), .int .i64 (if isHash s then 0 else 5)]) ∧ Below w.heap.size w w' := by
  obtain ⟨W2, hW⟩ : ∃ W2, (w.alloc (.cells (bs zer).toArray 24 (0, 0))).alloc (.cells (bs zer).toArray 24 (0, 0)) = W2 := ⟨_, rfl⟩
  obtain ⟨h1, h2, b2, z2⟩ := alloc2 hW
  have r1 : Row32 W2 w.heap.size zer := h1
  have r2 : Row32 W2 (w.heap.size + 1) zer := h2
  have hi := info32' zer_length
  have hone : (bs zer).toArray.all (·.oneCell') = true := all_oneCell_toArray (bs_one _)
  have hinf := info32 zer_length
  by_cases hl : s.length = 64
  · have e1 : ((s.length : Int) != 64) = false := by rw [hl]; rfl
    rw [← hW] at r1 r2 b2 z2
    clear hW h1 h2
    go_enter Try.func13, Try.ntmps13
    go_wp2_with fail
    go_loopw [5] (fun i wr => ∃ k : Nat, k ≤ 64 ∧ i = .int .i64 k ∧ (∀ j, j < k → hexVal (s.getD j 0) < 16) ∧ Row32 wr (w.heap.size + 1) (unRow s k) ∧ Row32 wr w.heap.size zer ∧ Below w.heap.size w wr ∧ w.heap.size + 2 ≤ wr.heap.size) (fun i _ => 64 - (intOf i).toNat)
    case atStart => exact ⟨0, by omega, rfl, fun j hj => absurd hj (by omega), by rw [unRow_zero]; exact r2, r1, b2, Nat.le_of_eq z2.symm⟩
    case round =>
      clear r1 r2 b2 z2
      obtain ⟨k, hk, rfl, hg, hd, hD, bw, zw⟩ := hrel
      by_cases h64 : k < 64
      · have hx := fun w' => ix_str w' s k (by omega)
        have kk : (k : Int) < 64 := by omega
        generalize hc : s.getD k 0 = c at hx
        replace hc : Hid (s.getD k 0 = c) := hc
        have hcl := c.toNat_lt
        by_cases hv : hexVal c < 16
        · have hnew := unRow_set s k h64
          rw [hc.out] at hnew
          have hold := uN_old s k
          have hold16 : uN s k (k / 2) < 16 := by
            rw [hold]; split
            · exact hg _ (by omega)
            · omega
          have hcell := hd.cell (j := k / 2) (by rw [unRow_length]; omega)
          have hg5 : (unRow s k).getD (k / 2) 0 = UInt8.ofNat (uN s k (k / 2)) := by unfold unRow; rw [tab_get _ _ (by omega)]
          rw [hg5] at hcell
          have hset := hd.set (k / 2) (UInt8.ofNat (16 * uN s k (k / 2) + hexVal c))
          rw [hnew] at hset
          have hg6 : ∀ j, j < k + 1 → hexVal (s.getD j 0) < 16 := fun j hj => by
            by_cases e : j = k
            · rw [e, hc.out]; exact hv
            · exact hg j (by omega)
          have hfin : ∀ (i' : Int), i' = (k : Int) + 1 → ∀ (v : Int), v = c8 (UInt8.ofNat (16 * uN s k (k / 2) + hexVal c)) → ∃ k' : Nat, k' ≤ 64 ∧ Value.int .i64 i' = .int .i64 k' ∧ (∀ j, j < k' → hexVal (s.getD j 0) < 16) ∧ Row32 (wr.setCell ⟨w.heap.size + 1, k / 2, none⟩ (.int .u8 v)) (w.heap.size + 1) (unRow s k') ∧ Row32 (wr.setCell ⟨w.heap.size + 1, k / 2, none⟩ (.int .u8 v)) w.heap.size zer ∧ Below w.heap.size w (wr.setCell ⟨w.heap.size + 1, k / 2, none⟩ (.int .u8 v)) ∧ w.heap.size + 2 ≤ (wr.setCell ⟨w.heap.size + 1, k / 2, none⟩ (.int .u8 v)).heap.size := by
            rintro i' rfl v rfl
            exact ⟨k + 1, by omega, by go_num, hg6, hset, (heap_setCell_other _ _ _ _ (show w.heap.size ≠ w.heap.size + 1 by omega)).trans hD, below_setCell bw (by omega) _, by simpa [World.setCell] using zw⟩
          clear hset hnew hg6 hold hg5
          by_cases hdig : 48 ≤ c.toNat ∧ c.toNat ≤ 57
          · have q1 : (48 : Int) ≤ c8 c := by unfold c8; omega
            have q2 : c8 c ≤ 57 := by unfold c8; omega
            have q3 := rv1 c hdig.1 hdig.2
            have q4 : IntKind.u8.wrap (c8 c - 48) = (hexVal c : Int) := by rw [IntKind.wrap_u8']; exact q3
            generalize uN s k (k / 2) = old at *
            generalize hexVal c = h at *
            go_wp2_with fail
            exact ⟨hfin _ rfl _ (orM _ _ hold16 hv), by simp [intOf]; omega⟩
          · have h97 : 97 ≤ c.toNat ∧ c.toNat ≤ 102 := by
              unfold hexVal at hv; rw [if_neg hdig] at hv
              by_cases e : 97 ≤ c.toNat ∧ c.toNat ≤ 102
              · exact e
              · rw [if_neg e] at hv; omega
            have hve : hexVal c = c.toNat - 87 := by unfold hexVal; rw [if_neg hdig, if_pos h97]
            have q1 : (48 : Int) ≤ c8 c := by unfold c8; omega
            have q2 : ¬ c8 c ≤ 57 := by unfold c8; omega
            have q3 : (97 : Int) ≤ c8 c := by unfold c8; omega
            have q4 : c8 c ≤ 102 := by unfold c8; omega
            have q5 : (hexVal c : Int) = c8 c - 97 + 10 := by rw [hve]; unfold c8; omega
            have q6 : IntKind.u8.wrap (c8 c - 97) = c8 c - 97 := by rw [IntKind.wrap_u8']; unfold c8; omega
            have q7 : IntKind.u8.wrap (c8 c - 97 + 10) = c8 c - 97 + 10 := by rw [IntKind.wrap_u8']; unfold c8; omega
            have hor := orM _ _ hold16 hv
            rw [q5] at hor
            replace hor : Hid _ := hor
            generalize uN s k (k / 2) = old at *
            go_wp2_with fail
            exact ⟨hfin _ rfl _ hor.out, by simp [intOf]; omega⟩
        · have hH := isHash_no_at h64 (hc.out.symm ▸ hv)
          have hret := load32 (w := wr.setRow w.heap.size (bs zer).toArray) (D := w.heap.size) (xs := zer) (setRow_heap wr w.heap.size _ _ _ _ hD) zer_length
          have b3 := below_setRow bw (Nat.le_refl _) (bs zer).toArray
          have hno : ¬ (48 ≤ c.toNat ∧ c.toNat ≤ 57) ∧ ¬ (97 ≤ c.toNat ∧ c.toNat ≤ 102) := by
            unfold hexVal at hv
            refine ⟨fun e => ?_, fun e => ?_⟩
            · rw [if_pos e] at hv; omega
            · by_cases e2 : 48 ≤ c.toNat ∧ c.toNat ≤ 57
              · omega
              · rw [if_neg e2, if_pos e] at hv; omega
          by_cases p1 : (48 : Int) ≤ c8 c
          · have p2 : ¬ c8 c ≤ 57 := fun h => hno.1 ⟨by unfold c8 at p1; omega, by unfold c8 at h; omega⟩
            by_cases p3 : (97 : Int) ≤ c8 c
            · have p4 : ¬ c8 c ≤ 102 := fun h => hno.2 ⟨by unfold c8 at p3; omega, by unfold c8 at h; omega⟩
              go_wp2_with (refine wpList_store_row rfl 24 _ _ rfl w.heap.size (bs zer).toArray rfl rfl 24 _ hD hinf rfl hone ?_)
              refine ret_cell2 (v := dg zer) Try.results13 rfl hret rfl ⟨rfl, b3⟩
            · go_wp2_with (refine wpList_store_row rfl 24 _ _ rfl w.heap.size (bs zer).toArray rfl rfl 24 _ hD hinf rfl hone ?_)
              refine ret_cell2 (v := dg zer) Try.results13 rfl hret rfl ⟨rfl, b3⟩
          · have p3 : ¬ (97 : Int) ≤ c8 c := by omega
            go_wp2_with (refine wpList_store_row rfl 24 _ _ rfl w.heap.size (bs zer).toArray rfl rfl 24 _ hD hinf rfl hone ?_)
            refine ret_cell2 (v := dg zer) Try.results13 rfl hret rfl ⟨rfl, b3⟩
      · obtain rfl : k = 64 := by omega
        have hH := (isHash_iff s).2 ⟨hl, hg⟩
        have hone2 : (bs (unRow s 64)).toArray.all (·.oneCell') = true := all_oneCell_toArray (bs_one _)
        have hret := load32 (w := wr.setRow w.heap.size (bs (unRow s 64)).toArray) (D := w.heap.size) (xs := unRow s 64) (setRow_heap wr w.heap.size _ _ _ _ hD) (unRow_length _ _)
        have b3 := below_setRow bw (Nat.le_refl _) (bs (unRow s 64)).toArray
        have hi2 := info32' (unRow_length s 64)
        have hinf2 := info32 (unRow_length s 64)
        have hsz2 : (bs zer).toArray.size = (bs (unRow s 64)).toArray.size := by simp [bs_length, unRow_length, zer_length]
        go_wp2_with (first | (refine wpList_load_mid rfl 24 _ rfl (w.heap.size + 1) 0 rfl _ _ hd.range Try.underlying24 rfl hi2 ?_) | (refine wpList_store_row rfl 24 _ _ rfl w.heap.size (bs (unRow s 64)).toArray rfl rfl 24 _ hD hinf2 hsz2 hone2 ?_))
        refine ret_cell2 (v := dg (unRow s 64)) Try.results13 rfl hret rfl ⟨rfl, b3⟩
  · have e1 : ((s.length : Int) != 64) = true := by rw [bne_iff_ne]; omega
    rw [isHash_no_len hl]
    go_enter Try.func13, Try.ntmps13
    have hret := load32 (w := W2.setRow w.heap.size (bs zer).toArray) (D := w.heap.size) (xs := zer) (setRow_heap W2 w.heap.size _ _ _ _ r1) zer_length
    have b3 := below_setRow b2 (Nat.le_refl _) (bs zer).toArray
    rw [← hW] at r1 r2 hret b3
    clear hW h1 h2
    go_wp2_with (first | (refine wpList_load_mid rfl 24 _ rfl (w.heap.size + 1) 0 rfl _ _ r2.range Try.underlying24 rfl hi ?_) | (refine wpList_store_row rfl 24 _ _ rfl w.heap.size (bs zer).toArray rfl rfl 24 _ r1 hinf rfl hone ?_))
    refine ret_cell2 (v := dg zer) Try.results13 rfl hret rfl ⟨rfl, b3⟩
end Go.Proofs.Ytbdgnlbbijpfmaa
